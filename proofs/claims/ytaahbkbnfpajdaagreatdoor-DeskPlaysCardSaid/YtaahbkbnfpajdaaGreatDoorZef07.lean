/- Lemmas. -/
import Derived.Test.YtaahbkbnfpajdaaGreatDoorZef03
import Derived.Test.YtaahbkbnfpajdaaGreatDoorZef0d
import Derived.Test.YtaahbkbnfpajdaaGreatDoorZef06
namespace Go.Proofs.YtaahbkbnfpajdaaGreatDoor
set_option linter.all false
set_option maxRecDepth 100000
set_option maxHeartbeats 8000000
open Go.RowKit
variable{w wr:Wd}{a r:Lz}{g:Int}{t:TypeId}{m:Nat}
def Dt(w:Wd)(a:Lz)(g:Int)(e:Ending)(w':Wd):Prop:=e=.returned (.tuple #[.agg (agi (exL a g)),.int .i64 (bz (exB a g))])/\Bw w w'
theorem Xi{w':Wd}(h:exB a g=false)(b:Bw w w'):Dt w a g (.returned (.tuple #[.agg (agi Z9),.int .i64 2])) w':=by
 refine⟨?_,b⟩;unfold exL bz;rw[h];rfl
theorem acK{w':Wd}{ys:Lz}(h:exB a g=true)(c:ys.length=9)(d:∀j,j<9->ys.getD j 0=exE a g j)(b:Bw w w'):Dt w a g (.returned (.tuple #[.agg (agi ys),.int .i64 0])) w':=by
 refine⟨?_,b⟩;have e:ys=exL a g:=by
  apply dM (by rw[c,WM]);intro j f;rw[d j ah];unfold exL;rw[if_pos h,bK,qg,vU ah];rfl
 unfold bz;rw[h,e];rfl
theorem acL{x:Int}(a: -1073741824<=x)(b:x<=1073741824):okA x=true:=by unfold okA;simp;omega
theorem alc{x:Int}(h:x< -1073741824\/1073741824<x):okA x=false:=by unfold okA;simp;omega
theorem acM(h:g<0\/32768<g):exB a g=false:=by unfold exB;simp;omega
theorem ald{k:Nat}(b:k<a.length)(h:a.getD k 0< -1073741824\/1073741824<a.getD k 0):exB a g=false:=by
 unfold exB;rw[jb b (alc h)];simp
theorem acN(b:0<=g)(c:g<=32768)(h:allTo okA a 9)(d:a.length=9):exB a g=true:=by
 unfold exB;rw[h.all ah];simp;omega
theorem acO{x f:Int}(a: -1073741824<=x)(b:x<=1073741824)(c:0<=f)(d:f<=32768): -35184372088832<=x*f/\x*f<=35184372088832:=by
 have:=iU (x:=x) (X:=1073741824) (y:=f) (Y:=32768) ah ah ⟨ah,ah⟩ ⟨ah,ah⟩;omega
theorem acP{f:Int}(a:0<=f)(c:f<=32768)(b:0<=g)(d:g<=32768):0<=f*g/\f*g<=1073741824:=by
 have:=iU (x:=f) (X:=32768) (y:=g) (Y:=32768) ah ah ⟨ah,ah⟩ ⟨ah,ah⟩;have:=qL a b;omega
structure Bx2(t:TypeId)(w wr:Wd)(a r:Lz):Prop where
 A:IB wr w.heap.size t a
 R:IB wr (w.heap.size+1) 73 r
 bel:Bw w wr
theorem Bx2.lt(h:Bx2 t w wr a r):w.heap.size+1<wr.heap.size:=Blk.lt h.R
theorem Bx2.below{b:Wd}(h:Bx2 t w wr a r)(c:Bw wr b):Bx2 t w b a r:=
 ⟨Blk.below' h.A c,Blk.below' h.R c,h.bel.trans (c.mono rX)⟩
theorem Bx2.setCell(h:Bx2 t w wr a r){g:Nat}(G:w.heap.size+1<g)(k:Nat)(v:Value):Bx2 t w (wr.setCell ⟨g,k,none⟩ v) a r:=
 ⟨Blk.far h.A aa5 _,Blk.far h.R aa0 _,h.bel.setCell (p:=⟨g,k,none⟩) aa9 _⟩
theorem Bx2.setA(h:Bx2 t w wr a r)(k:Nat)(v:Int):Bx2 t w (wr.setCell ⟨w.heap.size,k,none⟩ (.int .i64 v)) (a.set k v) r:=
 ⟨IB.set_ h.A k v,Blk.far h.R Ub _,h.bel.setCell (p:=⟨w.heap.size,k,none⟩) (ax _) _⟩
theorem Bx2.drew(h:Bx2 t w wr a r):Bx2 t w wr.drew a r:=⟨h.A,h.R,h.bel.drew⟩
theorem Bx2.start(t:TypeId)(w:Wd)(a:Lz):Bx2 t w ((w.alloc (.cells (agi a) t)).alloc (.cells (agi Z9) 73)) a Z9:=by
 have c:=IB.new w t a;have b:=IB.new (w.alloc (.cells (agi a) t)) 73 Z9;simp only[bT] at b;exact⟨Blk.alloc c _,b,((baqq _ _).alloc ay _)⟩
theorem ale(a:Lz)(g:Int)(w:Wd)(l:a.length=9):Cl 37 #[.agg (agi a),.int .i64 g] w (Dt w a g):=by
 have M:=af (Bx2.start 73 w a);have hR:=nz (fn:=Tryz.f37) (p:=4) (q:=5) (ty:=73) rfl;have HA:=af l;by_cases h1:g<0\/32768<g
 ·have D:=af (Xi (a:=a) (g:=g) (acM h1) (aS M.o.bel (g:=w.heap.size+1) ah (agi Z9)))
  have c:=af (M.o.R.setRow Z9);clear l;rcases h1 with h1|h1
  ·have t:decide (g<0)=true:=ja
   go_enter Tryz.func37,Tryz.ntmps37;go_wp2_with(refine aQ 73 (.tmp 4) (.tmp 14) Z9 Z9 9 M.o.R bC rfl rfl ?_);exact VS
  have t:decide (g<0)=false:=aC;have F:decide (32768<g)=true:=ja;go_enter Tryz.func37,Tryz.ntmps37;go_wp2_with(refine aQ 73 (.tmp 4) (.tmp 14) Z9 Z9 9 M.o.R bC rfl rfl ?_);exact VS
 have e:0<=g:=ah;have i:g<=32768:=ah;have t:decide (g<0)=false:=aC;have F:decide (32768<g)=false:=aC;have B:=af (fun k=>WJ e i k);rw[jR] at M;clear h1 l;go_enter Tryz.func37,Tryz.ntmps37;go_wp2;go_loopw[6,15] (fun H n wr=> ∃(k:Nat) (ys:Lz) (f:Int),k<=9/\n=.int .i64 k/\H=.int .i64 f/\Hy (f=exF g k/\ys.length=9/\allTo okA a k/\(∀j,j<k->ys.getD j 0=exE a g j)/\∀j,k<=j->ys.getD j 0=a.getD j 0)/\Hy (Bx2 73 w wr ys Z9)) (fun _ n _=>9-(intOf n).toNat)
 case atStart=>exact⟨0,a,32768,ah,rfl,rfl,af ⟨rfl,HA.o,allTo.zero,fun j h=>ah,fun j _=>rfl⟩,M⟩
 case round=>
  clear M;obtain⟨k,ys,f,Q,rfl,rfl,HY,E⟩:=hrel;obtain⟨b,d⟩:=B.o k;rw[<-HY.o.1] at b d;by_cases hlt:k<9
  ·have Y:=E.o.A.cell k (by rw[HY.o.2.1];exact hlt)
   have P:=Blk.frozen E.o.A k;rw[HY.o.2.2.2.2 k (ax _)] at Y;obtain⟨x,m⟩:=ak (a.getD k 0);rw[<-m] at Y;have HX:=af m;clear m;by_cases z:x< -1073741824\/1073741824<x
   ·exact ahO
   have b1: -1073741824<=x:=ah;have s:x<=1073741824:=ah;obtain⟨S,J⟩:=acO b1 s b d;obtain⟨T,U⟩:=acP b d e i;have r:=aj (Hy ((f*g+16384)/32768=exF g (k+1)/\(ys.set k ((x*f+16384)/32768)).length=9/\allTo okA a (k+1)/\(∀j,j<k+1->(ys.set k ((x*f+16384)/32768)).getD j 0=exE a g j)/\∀j,k+1<=j->(ys.set k ((x*f+16384)/32768)).getD j 0=a.getD j 0)) (by
    obtain⟨y,q1,L,N,O⟩:=HY.o;refine⟨by rw[y];rfl,wI,L.succ (by rw[<-HX.o];exact acL b1 s),fun j K=>?_,fun j K=>?_⟩
    ·by_cases u:k=j
     ·subst u
      rw[gQ _ _ _ ah,exE,<-HX.o,<-y]
     ·rw[gV _ _ u]
      exact N j ah
    ·rw[gV _ _ ah]
     exact O j ah)
   have C:=af (E.o.setA k ((x*f+16384)/32768));clear z;go_wp2;go_roundw;case rel=>exact⟨k+1,_,_,ah,aT,rfl,r.o,C⟩
   case measure=>exact aW
  obtain rfl:k=9:=ah;have G:=acN e i HY.o.2.2.1 HA.o;have D:=af (acK G HY.o.2.1 HY.o.2.2.2.1 (aS E.o.bel (g:=w.heap.size+1) ah (agi ys)));have I:=af (E.o.R.setRow ys);clear hlt G;go_wp2_with(first
   |(refine aK 73 (.tmp 2) ys 9 E.o.A bP bC HY.o.2.1 ?_)
   |(refine aQ 73 (.tmp 4) (.tmp 44) Z9 ys 9 E.o.R bC rfl HY.o.2.1 ?_))
  exact aiR
theorem IV{n j:Nat}(f:Nat->Int)(h:j<n):((List.range n).map f).getD j 0=f j:=by
 rw[bK,qg,vU h];rfl
def tN(w:Wd)(a:Lz)(e:Ending)(w':Wd):Prop:=e=.returned (.tuple #[.agg (agi (jZ a)),.int .i64 (bz (dH a))])/\Bw w w'
theorem ado{w':Wd}(h:dH a=false)(b:Bw w w'):tN w a (.returned (.tuple #[.agg (agi Z9),.int .i64 2])) w':=by
 refine⟨?_,b⟩;unfold jZ bz;rw[h];rfl
theorem adp{w':Wd}{ys:Lz}(h:dH a=true)(c:ys.length=9)(d:∀j,j<9->ys.getD j 0=((dS a 8).getD j 0+2048)/4096)(b:Bw w w'):tN w a (.returned (.tuple #[.agg (agi ys),.int .i64 0])) w':=by
 refine⟨?_,b⟩;have e:ys=jZ a:=by
  apply dM (by rw[c,yB]);intro j f;rw[d j ah];unfold jZ;rw[if_pos h,IV _ (show j<9 from ah)]
 unfold bz;rw[h,e];rfl
def P0:Lz:=[16777216,0,0,0,0,0,0,0,0]
theorem XH(k:Lz)(j:Nat):(dS k 0).getD j 0=P0.getD j 0:=by
 match j with
 |0=>rfl
 |1=>rfl
 |2=>rfl
 |3=>rfl
 |4=>rfl
 |5=>rfl
 |6=>rfl
 |7=>rfl
 |8=>rfl
 |j+9=>rfl
theorem amc(k:Lz)(m i:Nat)(a:1<=i)(h:i<=m+1):(dS k (m+1)).getD i 0=(dS k m).getD i 0+k.getD m 0*(dS k m).getD (m+1-i) 0/32768:=by
 rw[dS,zW _ _ _ _ h,if_neg ah]
theorem xh(k:Lz)(m:Nat):(dS k (m+1)).getD 0 0=(dS k m).getD 0 0:=by
 rw[dS,zW _ _ _ _ ah,if_pos rfl]
theorem adq(k:Lz)(m i:Nat)(h:m<i):(dS k m).getD i 0=0:=by
 rw[bK,iy U5];rfl
theorem DK{k:Lz}(h:∀i,-32768<k.getD i 0/\k.getD i 0<32768)(O:m<=8)(i:Nat): -4294967296<=(dS k m).getD i 0/\(dS k m).getD i 0<=4294967296:=by
 have a:=akD (k:=k) (fun i=>⟨by have:=h i;omega,by have:=h i;omega⟩) m i;have b:(2:Nat)^m<=2^8:=jK aA O;have c:((2^m:Nat):Int)=2^m:=ay;omega
def DirMid(a ys:Lz)(m i:Nat):Prop:=ys.length=9/\∀j,ys.getD j 0=if j<i then(dS a (m+1)).getD j 0 else(dS a m).getD j 0
theorem DirMid.start{ys:Lz}(b:ys.length=9)(h:∀j,ys.getD j 0=(dS a m).getD j 0):DirMid a ys m 1:=⟨b,fun j=>by
 rw[h j];split
 ·obtain rfl:j=0:=ah
  exact(xh a m).symm
 ·rfl⟩
theorem DirMid.step{a ys:Lz}{m i:Nat}(h:DirMid a ys m i)(c:1<=i)(hi:i<=m+1)(d:i<9):
 DirMid a (ys.set i ((dS a m).getD i 0+a.getD m 0*(dS a m).getD (m+1-i) 0/32768)) m (i+1):=by
 refine⟨by simpa using h.1,fun j=>?_⟩;by_cases b:i=j
 ·subst b
  rw[gQ _ _ _ (by rw[h.1];exact d),if_pos ah,amc a m i c hi]
 ·rw[gV _ _ b,h.2 j]
  exact ajk
theorem DirMid.fin{ys:Lz}(h:DirMid a ys m (m+2)):∀j,ys.getD j 0=(dS a (m+1)).getD j 0:=fun j=>by
 rw[h.2 j];split
 ·rfl
 rw[adq a m j ah,adq a (m+1) j ah]
theorem adr(a:Lz)(w:Wd)(ha:a.length=8):Cl 36 #[.agg (agi a)] w (tN w a):=by
 have M:=af (Bx2.start 52 w a);have hR:=nz (fn:=Tryz.f36) (p:=2) (q:=3) (ty:=73) rfl;have HA:=af ha;have G:=af (fun(k:Nat) (hk:k<8) (w:Wd)=>jW aU a ha k hk w);have C:=IB.new ((w.alloc (.cells (agi a) 52)).alloc (.cells (agi Z9) 73)) 73 Z9;have L:=af ((M.o.below (baqq _ (.cells (agi Z9) 73))));simp only[bT] at C;have O2:=af (IB.setRow C P0);have e:=af (show Bx2 52 w ((((w.alloc (.cells (agi a) 52)).alloc (.cells (agi Z9) 73)).alloc (.cells (agi Z9) 73)).setRow (w.heap.size+1+1) (agi P0)) a Z9 from
  ⟨Blk.rowFar L.o.A ah,Blk.rowFar L.o.R ah,aS L.o.bel ah _⟩)
 have C:=af C;clear ha M;go_enter Tryz.func36,Tryz.ntmps36;go_wp2_with(first
  |(refine aQ 73 (.tmp 4) (.tmp 12) Z9 P0 9 C.o bC rfl rfl ?_)
  |(refine aK 52 (.tmp 1) a 8 e.o.A aU aJ HA.o ?_))
 go_loop [14] (fun b=> ∃k:Nat,k<=8/\b=.int .i64 k/\Hy (allTo okR a k)) (fun b=>8-(intOf b).toNat)
 case atStart=>exact⟨0,ah,rfl,af allTo.zero⟩
 case round=>
  obtain⟨k,hk,rfl,HY⟩:=hrel;by_cases hlt:k<8
  ·have u:=G.o k hlt
   obtain⟨x,n⟩:=ak (a.getD k 0);rw[<-n] at u;have HX:=af n;clear n;by_cases z:x<= -32768\/32768<=x
   ·have D:=af (ado (a:=a) (jb (i:=k) uP (Ik ww)) (aS e.o.bel (g:=w.heap.size+1) ah (agi Z9)))
    have I:=af (e.o.R.setRow Z9);rcases z with J|J
    ·go_wp2_with(refine aQ 73 (.tmp 2) (.tmp 23) Z9 Z9 9 e.o.R bC rfl rfl ?_)
     exact ahS
    have b0: ¬x<= -32768:=ah;go_wp2_with(refine aQ 73 (.tmp 2) (.tmp 23) Z9 Z9 9 e.o.R bC rfl rfl ?_);exact ahS
   have J: -32768<x:=ah;have W:x<32768:=ah;have HN:=af (HY.o.succ (by rw[<-HX.o];exact Dn J W));clear z;exact VM
  obtain rfl:k=8:=ah;have sd:dH a=true:=HY.o.all MH;have SD:=af sd;have N:=af (fun i=>zX sd i);clear hlt sd;go_wp2_with(refine aK 52 (.tmp 1) a 8 e.o.A aU aJ HA.o ?_);go_loopw[26] (fun b wr=> ∃(m:Nat) (ys:Lz),m<=8/\b=.int .i64 m/\Hy (ys.length=9/\∀j,ys.getD j 0=(dS a m).getD j 0)/\Hy (Bx2 52 w wr a Z9)/\Hy (IB wr (w.heap.size+1+1) 73 ys)) (fun b _=>8-(intOf b).toNat)
  case atStart=>exact⟨0,P0,ah,rfl,af ⟨rfl,fun j=>(XH a j).symm⟩,e,O2⟩
  case round=>
   clear e O2 C L;obtain⟨m,ys,O,rfl,HY,E,Q⟩:=hrel;obtain⟨s,rfl⟩:=ak (wr:Wd);by_cases hlt:m<8
   ·have u:=G.o m hlt
    obtain⟨q,P⟩:=ak (a.getD m 0);rw[<-P] at u;have sq:=N.o m;rw[<-P] at sq;obtain⟨q1,q2⟩:=sq;have HQ:=af P;clear P;have K:=af (IB.stored s 73 Z9 ys);have V:=af (Blk.stored (c2:=agi ys) Q.o (.cells (agi Z9) 73));have hne:=Blk.lt Q.o;have l:=af (show Bx2 52 w ((s.alloc (.cells (agi Z9) 73)).setRow s.heap.size (agi ys)) a Z9 from
     ⟨Blk.stored E.o.A _,Blk.stored E.o.R _,E.o.bel.trans ((dI s _ _).mono (by have:=E.o.lt;omega))⟩)
    have H:=af (DirMid.start HY.o.1 HY.o.2);rw[jR] at K V l;go_wp2_with(first
     |(refine aK 73 (.tmp 4) ys 9 Q.o bP bC HY.o.1 ?_)
     |(refine aQ 73 (.tmp 9) (.tmp 30) Z9 ys 9 (IB.new s 73 Z9) bC rfl HY.o.1 ?_))
    go_loopw[10] (fun jv t=> ∃(i:Nat) (zs:Lz),1<=i/\i<=m+2/\jv=.int .i64 i/\Hy (DirMid a zs m i)/\Hy (Bx2 52 w t a Z9)/\Hy (IB t (w.heap.size+1+1) 73 zs)/\Hy (IB t s.heap.size 73 ys)) (fun jv _=>m+2-(intOf jv).toNat)
    case atStart=>exact⟨1,ys,ah,ah,rfl,H,l,V,K⟩
    case round=>
     clear K V l H;obtain⟨i,zs,hi1,hi2,rfl,HM,F,c,f⟩:=hrel;by_cases T:i<=m+1
     ·obtain⟨d,U⟩:∃d:Nat,m+1=i+d:=⟨m+1-i,ah⟩
      have hsub:(m:Int)+1-(i:Int)=(d:Nat):=ah;have c1:=f.o.cell i MR;have c2:=f.o.cell d MR;have c3:=c.o.cell i UZ;have f3:=Blk.frozen c.o i;rw[HY.o.2] at c1 c2;have bx:=DK N.o O i;have Z:=DK N.o O d;have ST:=af (HM.o.step hi1 T ah);rw[<-HQ.o,show m+1-i=d from ah] at ST;generalize (dS a m).getD i 0=x at*
      generalize (dS a m).getD d 0=y at*
      obtain⟨bx1,bx2⟩:=bx;obtain⟨by1,by2⟩:=Z;have pr:=iU (x:=q) (X:=32768) (y:=y) (Y:=4294967296) ah ah ⟨ah,ah⟩ ⟨ah,ah⟩;have p1: -140737488355328<=q*y:=ah;have p2:q*y<=140737488355328:=ah;have S:=af (F.o.setCell (g:=w.heap.size+1+1) ah i (.int .i64 (x+q*y/32768))).drew;have B:=af (IB.set_ c.o i (x+q*y/32768));have NW:=af (Blk.far f.o (p:=⟨w.heap.size+1+1,i,none⟩) (by show s.heap.size≠w.heap.size+1+1;omega) (.int .i64 (x+q*y/32768)));have hd9:d<9:=ah;have hi9:i<9:=ah;clear pr U;go_wp2;go_region;all_goals
       go_wp2;go_roundw;case rel=>exact⟨i+1,_,ah,ah,aT,ST,S,B,NW⟩
       case measure=>exact aW
     obtain rfl:i=m+2:=ah;have HF:=af (show zs.length=9/\∀j,zs.getD j 0=(dS a (m+1)).getD j 0 from⟨HM.o.1,HM.o.fin⟩);go_wp2;go_roundw;case rel=>exact⟨m+1,zs,ah,aT,HF,F,c⟩
     case measure=>exact aW
   obtain rfl:m=8:=ah;have BD:=af (fun j=>DK N.o (show 8<=8 from ah) j);clear hlt;go_wp2;go_loopw[53] (fun b wr=> ∃(k:Nat) (zs:Lz),k<=9/\b=.int .i64 k/\Hy (zs.length=9/\(∀j,j<k->zs.getD j 0=((dS a 8).getD j 0+2048)/4096)/\∀j,k<=j->zs.getD j 0=(dS a 8).getD j 0)/\Hy (Bx2 52 w wr a Z9)/\Hy (IB wr (w.heap.size+1+1) 73 zs)) (fun b _=>9-(intOf b).toNat)
   case atStart=>exact⟨0,ys,ah,rfl,af ⟨HY.o.1,fun j h=>ah,fun j _=>HY.o.2 j⟩,E,Q⟩
   case round=>
    clear E Q HY;obtain⟨k,zs,hk,rfl,HY,E,Q⟩:=hrel;by_cases hlt:k<9
    ·have c3:=Q.o.cell k uO
     have f3:=Blk.frozen Q.o k;rw[HY.o.2.2 k (ax _)] at c3;obtain⟨J,W⟩:=BD.o k;obtain⟨x,n⟩:=ak ((dS a 8).getD k 0);rw[<-n] at c3 J W;have HX:=af n;clear n;have r:=aj (Hy ((zs.set k ((x+2048)/4096)).length=9/\(∀j,j<k+1->(zs.set k ((x+2048)/4096)).getD j 0=((dS a 8).getD j 0+2048)/4096)/\∀j,k+1<=j->(zs.set k ((x+2048)/4096)).getD j 0=(dS a 8).getD j 0)) (by
      obtain⟨q1,q3,q4⟩:=HY.o;refine⟨wI,fun j hj=>?_,fun j hj=>?_⟩
      ·by_cases he:k=j
       ·subst he
        rw[gQ _ _ _ ah,HX.o]
       ·rw[gV _ _ he]
        exact q3 j ah
      ·rw[gV _ _ ah]
       exact q4 j ah)
     have S:=af (E.o.setCell (g:=w.heap.size+1+1) ah k (.int .i64 ((x+2048)/4096)));have B:=af (IB.set_ Q.o k ((x+2048)/4096));go_wp2;go_roundw;case rel=>exact⟨k+1,_,ah,aT,r.o,S,B⟩
     case measure=>exact aW
    obtain rfl:k=9:=ah;have D:=af (adp SD.o HY.o.1 HY.o.2.1 (aS E.o.bel (g:=w.heap.size+1) ah (agi zs)));have I:=af (E.o.R.setRow zs);clear hlt;go_wp2_with(first
     |(refine aK 73 (.tmp 4) zs 9 Q.o bP bC HY.o.1 ?_)
     |(refine aQ 73 (.tmp 2) (.tmp 64) Z9 zs 9 E.o.R bC rfl HY.o.1 ?_))
    exact aiZ
def dgI(n:Nat)(k:Nat):Int:=(dg n k:Nat)
theorem ad9(c f:Nat)(a:c<18446744073709551616)(b:f<18446744073709551616)(W:Wd):Cl 185 #[.int .u64 (c:Nat),.int .u64 (f:Nat)] W (fun e w'=>e=.returned (.agg #[.int .u64 (dgI (c*c*f) 0),.int .u64 (dgI (c*c*f) 1),.int .u64 (dgI (c*c*f) 2)])/\Bw W w'):=
 (amY c f a b W).mono fun e w' h=>⟨by rw[h.1];rfl,h.2⟩
theorem am1(w:Wd)(a b c:Nat):Bw w (((w.drewN a).drewN b).drewN c):=⟨rfl,rfl,rfl,ax _,fun _ _=>rfl⟩
theorem Pv(c:Int)(h:c<=9223372036854775807):∃n:Nat,max c 0=(n:Int)/\n<=9223372036854775807:=⟨(max c 0).toNat,ah,ah⟩
theorem aea{c d:Nat}{e f:Int}{a fn:Nat}(k:e=a)(l:f=fn)(g:0<e)(i:0<f){c' d':Int}(j:max c' 0=c)(U:max d' 0=d):jy c' e d' f=decide (d*d*a<c*c*fn):=by
 rw[amZ g i,j,U,k,l];have b:((d:Int)*d*a)=((d*d*a:Nat):Int):=ay;have S:((c:Int)*c*fn)=((c*c*fn:Nat):Int):=ay;rw[b,S];by_cases h:d*d*a<c*c*fn
 ·rw[kH h,kH ah]
 rw[kV h,kV ah]
theorem aeb(c e d f:Int)(w:Wd)(c1: -9223372036854775808<=c)(c2:c<=9223372036854775807)(y: -9223372036854775808<=e)(S:e<=9223372036854775807)(d1: -9223372036854775808<=d)(d2:d<=9223372036854775807)(f1: -9223372036854775808<=f)(f2:f<=9223372036854775807):
 Cl 149 #[.int .i64 c,.int .i64 e,.int .i64 d,.int .i64 f] w fun g w'=>g=.returned (.bool (jy c e d f))/\Bw w w':=by
 by_cases he:e<=0
 ·have D:=af (ad8 (c:=c) (d:=d) (f:=f) he)
  have q: ¬0<e:=ah;exact aja
 by_cases hf:f<=0
 ·have D:=af (Yg (c:=c) (d:=d) (f:=f) (e:=e) ah hf)
  have q:0<e:=ah;exact aja
 obtain⟨g,rfl⟩:=gI (show 0<=e from ah);obtain⟨fn,rfl⟩:=gI (show 0<=f from ah);have he:0<((g:Nat):Int):=ah;have hf:0<((fn:Nat):Int):=ah;obtain⟨r,E,cn2⟩:=Pv c c2;obtain⟨s,G,dn2⟩:=Pv d d2;have A:c=(r:Int)\/c<0/\r=0:=ah;have C:d=(s:Int)\/d<0/\s=0:=ah;have K1:=ad9 r fn ah ah;have K2:=ad9 s g ah ah;have H:=af (aea (c:=r) (d:=s) (c':=c) (d':=d) (e:=(g:Nat)) (f:=(fn:Nat)) rfl rfl he hf E G);obtain⟨D0,D1,D2,D3⟩:=am0 (r*r*fn) (s*s*g);generalize r*r*fn=X at*
 generalize s*s*g=Y at*
 have M:=af D0;have A1:=af D1;have A2:=af D2;have A3:=af D3;have K:=aj (dgI X 0=(dg X 0:Nat)) (rfl);have L:=aj (dgI X 1=(dg X 1:Nat)) (rfl);have O:=aj (dgI X 2=(dg X 2:Nat)) (rfl);have P:=aj (dgI Y 0=(dg Y 0:Nat)) (rfl);have Q:=aj (dgI Y 1=(dg Y 1:Nat)) (rfl);have R:=aj (dgI Y 2=(dg Y 2:Nat)) (rfl);clear D0 D1 D2 D3;generalize dgI X 0=u at*
 generalize dgI X 1=N at*
 generalize dgI X 2=J at*
 generalize dgI Y 0=B at*
 generalize dgI Y 1=z at*
 generalize dgI Y 2=y2 at*
 have t:=af K1;have i:=af K2;clear K1 K2;go_enter Tryz.func149,Tryz.ntmps149;go_upto_region 3 with fail;go_cut[9,10] (fun s9 s10 wx=> ∃l:Nat,s9=.pointer (some ⟨l,0,none⟩)/\s10=.pointer (some ⟨l+1,0,none⟩)/\Hy (Blk wx l 195 #[.int .u64 u,.int .u64 N,.int .u64 J])/\Hy (Blk wx (l+1) 195 #[.int .u64 B,.int .u64 z,.int .u64 y2])/\Hy (Bw w wx))
 case first=>
  clear H;rcases A with rfl|⟨hc,rfl⟩<;>rcases C with rfl|⟨U,rfl⟩<;>(
   go_wp2_with fail;refine(t.o _).mono ?_;rintro Z w1 ⟨rfl,I⟩;have B1:=af I;clear I;go_wp2_with fail;refine(i.o _).mono ?_;rintro Z w2 ⟨rfl,I⟩;have V:=af (aH B1.o I);clear I;go_wp2;go_meet;have n:=Blk.new (w2.alloc (.cells #[.int .u64 u,.int .u64 N,.int .u64 J] 195)) 195 #[.int .u64 B,.int .u64 z,.int .u64 y2];simp only[bT] at n;exact⟨w2.heap.size,rfl,rfl,af (Blk.alloc (Blk.new w2 _ _) _),af n,af ((V.o.alloc V.o.size _).alloc (by have:=V.o.size;simp;omega) _)⟩)
 case rest=>
  clear A C E G t i;obtain⟨l,rfl,rfl,W,F,a⟩:=hcut;go_wp2_with fail;go_loopw[32] (fun iv wr=> ∃(k m:Nat),k<=3/\iv=.int .i64 k/\wr=wc.drewN m/\Hy (∀j,j<k->dg X j=dg Y j)) (fun iv _=>3-(intOf iv).toNat)
  case atStart=>exact⟨0,0,ah,rfl,rfl,af (fun j h=>ah)⟩
  case round=>
   obtain⟨k,m,hk,rfl,rfl,p⟩:=hrel;have BW:=af (aH a.o (jL wc m));by_cases h0:k=0
   ·subst h0
    have cx:wc.cell? ⟨l,0,none⟩=some (.int .u64 u):=Blk.cell W.o 0;have cy:wc.cell? ⟨l+1,0,none⟩=some (.int .u64 B):=Blk.cell F.o 0;by_cases heq:u=B
    ·have y:(u==B)=true:=rY
     have S:(u !=B)=false:=rY;have b:=aj (∀j,j<0+1->dg X j=dg Y j) (fun j hj=>by
      by_cases e:j=0
      ·subst e;have v:=K.o;have n:=P.o;omega
      ·exact p.o j ah)
     clear heq;go_wp2;go_quiet (fail);go_wp2;go_roundw;case rel=>exact⟨0+1,_,ah,rfl,rfl,b⟩
     case measure=>simp[intOf]
    have y:(u==B)=false:=rY;have S:(u !=B)=true:=rY;have HF:=af (show jy c (g:Nat) d (fn:Nat)=decide (B<u) by
     rw[H.o];have v:=K.o;have n:=P.o;have x:dg Y 0<dg X 0↔Y<X:=M.o (fun T=>heq ah);by_cases h:Y<X
     ·have:=x.2 h;rw[kH h,kH ah]
     ·have: ¬dg Y 0<dg X 0:=fun T=>h (x.1 T)
      rw[kV h,kV ah])
    exact abq
   by_cases v:k=1
   ·subst v
    have cx:wc.cell? ⟨l,1,none⟩=some (.int .u64 N):=Blk.cell W.o 1;have cy:wc.cell? ⟨l+1,1,none⟩=some (.int .u64 z):=Blk.cell F.o 1;by_cases heq:N=z
    ·have y:(N==z)=true:=rY
     have S:(N !=z)=false:=rY;have b:=aj (∀j,j<1+1->dg X j=dg Y j) (fun j hj=>by
      by_cases e:j=1
      ·subst e;have v:=L.o;have n:=Q.o;omega
      ·exact p.o j ah)
     clear heq;go_wp2;go_quiet (fail);go_wp2;go_roundw;case rel=>exact⟨1+1,_,ah,rfl,rfl,b⟩
     case measure=>simp[intOf]
    have y:(N==z)=false:=rY;have S:(N !=z)=true:=rY;have HF:=af (show jy c (g:Nat) d (fn:Nat)=decide (z<N) by
     rw[H.o];have v:=L.o;have n:=Q.o;have x:dg Y 1<dg X 1↔Y<X:=A1.o (p.o 0 ah) (fun T=>heq ah);by_cases h:Y<X
     ·have:=x.2 h;rw[kH h,kH ah]
     ·have: ¬dg Y 1<dg X 1:=fun T=>h (x.1 T)
      rw[kV h,kV ah])
    exact abq
   by_cases n:k=2
   ·subst n
    have cx:wc.cell? ⟨l,2,none⟩=some (.int .u64 J):=Blk.cell W.o 2;have cy:wc.cell? ⟨l+1,2,none⟩=some (.int .u64 y2):=Blk.cell F.o 2;by_cases heq:J=y2
    ·have y:(J==y2)=true:=rY
     have S:(J !=y2)=false:=rY;have b:=aj (∀j,j<2+1->dg X j=dg Y j) (fun j hj=>by
      by_cases e:j=2
      ·subst e;have v:=O.o;have n:=R.o;omega
      ·exact p.o j ah)
     clear heq;go_wp2;go_quiet (fail);go_wp2;go_roundw;case rel=>exact⟨2+1,_,ah,rfl,rfl,b⟩
     case measure=>simp[intOf]
    have y:(J==y2)=false:=rY;have S:(J !=y2)=true:=rY;have HF:=af (show jy c (g:Nat) d (fn:Nat)=decide (y2<J) by
     rw[H.o];have v:=O.o;have n:=R.o;have x:dg Y 2<dg X 2↔Y<X:=A2.o (p.o 0 ah) (p.o 1 ah) (fun T=>heq ah);by_cases h:Y<X
     ·have:=x.2 h;rw[kH h,kH ah]
     ·have: ¬dg Y 2<dg X 2:=fun T=>h (x.1 T)
      rw[kV h,kV ah])
    exact abq
   obtain rfl:k=3:=ah;have HF:=af (show jy c (g:Nat) d (fn:Nat)=false by
    rw[H.o];have:=A3.o (p.o 0 ah) (p.o 1 ah) (p.o 2 ah);simp;omega)
   clear h0 v n;go_wp2;go_ret;exact⟨qO,BW.o⟩
theorem am2(x y:Int):decide (0<jq x y)=decide (y<x):=by
 unfold jq;by_cases b:x<y
 ·rw[if_pos b,kV (by omega: ¬y<x)];decide
 rw[if_neg b];by_cases a:y<x
 ·rw[if_pos a,kH a];decide
 rw[if_neg a,kV a];decide
theorem aec{a:Nat}(h:a<=9223372036854775807):(((a:Nat):Int)*(a:Nat)).natAbs<340282366920938463463374607431768211456:=by
 have:a*a<=9223372036854775807*9223372036854775807:=zh h h;have e:(((a:Nat):Int)*(a:Nat))=((a*a:Nat):Int):=ay;rw[e];omega
theorem aed{a b:Nat}(h:a<=9223372036854775807)(f:b<=9223372036854775807):Sm (((a:Nat):Int)*(a:Nat)*(b:Nat)).natAbs:=by
 have c:a*a<=9223372036854775807*9223372036854775807:=zh h h;have d:a*a*b<=9223372036854775807*9223372036854775807*9223372036854775807:=zh c f;have e:(((a:Nat):Int)*(a:Nat)*(b:Nat))=((a*a*b:Nat):Int):=ay;rw[e];unfold Sm;exact Kw d aA
theorem aee(c e d f:Int)(w:Wd)(c1: -9223372036854775808<=c)(c2:c<=9223372036854775807)(e1: -9223372036854775808<=e)(S:e<=9223372036854775807)(d1: -9223372036854775808<=d)(d2:d<=9223372036854775807)(f1: -9223372036854775808<=f)(f2:f<=9223372036854775807):
 Cl 173 #[.int .i64 c,.int .i64 e,.int .i64 d,.int .i64 f] w fun n w'=>n=.returned (.bool (jy c e d f))/\Bw w w':=by
 by_cases he:e<=0
 ·have D:=af (ad8 (c:=c) (d:=d) (f:=f) he)
  go_enter Tryz.func173,aaq;exact zM
 by_cases hf:f<=0
 ·have D:=af (Yg (c:=c) (d:=d) (f:=f) (e:=e) ah hf)
  go_enter Tryz.func173,aaq;exact zM
 obtain⟨n,rfl⟩:=gI (show 0<=e from ah);obtain⟨fn,rfl⟩:=gI (show 0<=f from ah);have he:0<((n:Nat):Int):=ah;have hf:0<((fn:Nat):Int):=ah;obtain⟨i,y,cn2⟩:=Pv c c2;obtain⟨j,A,dn2⟩:=Pv d d2;have v:c=(i:Int)\/c<0/\i=0:=ah;have x:d=(j:Int)\/d<0/\j=0:=ah;have H:=af (aea (c:=i) (d:=j) (c':=c) (d':=d) (e:=(n:Nat)) (f:=(fn:Nat)) rfl rfl he hf y A);have qc:((i:Nat):Int)<=9223372036854775807:=ah;have qd:((j:Nat):Int)<=9223372036854775807:=ah;have R:=aec (a:=i) ah;have T:=aec (a:=j) ah;have E:=aed (a:=i) (b:=fn) ah ah;have F:=aed (a:=j) (b:=n) ah ah;have B:=af (fun W=>jM W ((i:Nat):Int) ah ah);have C:=af (fun W=>jM W ((j:Nat):Int) ah ah);have KW3:=af (fun W=>jM W ((fn:Nat):Int) ah ah);have KW4:=af (fun W=>jM W ((n:Nat):Int) ah ah);have SQC:=af R;have SQD:=af T;have CUC:=af E;have CUD:=af F;clear R T E F;go_enter Tryz.func173,aaq;go_upto_region 5 with fail;go_cut[9,10] (fun s9 s10 wx=> ∃q r:Nat,s9=.pointer (some ⟨q,0,none⟩)/\s10=.pointer (some ⟨r,0,none⟩)/\(q≠r/\w.heap.size<=q/\w.heap.size<=r)/\Hy (IntAt wx q ((i:Nat):Int))/\Hy (IntAt wx r ((j:Nat):Int))/\Hy (Bw w wx))
 case first=>
  clear H;rcases v with rfl|⟨hc,rfl⟩<;>rcases x with rfl|⟨U,rfl⟩<;>(
   go_wp2_with fail;refine(B.o _).mono ?_;rintro k w1 ⟨q,rfl,s,G,l⟩;have I1:=af G;have B1:=af l;clear G l;go_wp2_with fail;refine(C.o _).mono ?_;rintro k w2 ⟨r,rfl,hb2,I,l⟩;have Y:=af I;have t:=af (I1.o.below l (ax _));have X:=af (aH B1.o l);have l1:=I1.o.lt;have s1:=B1.o.size;clear I l;go_wp2_with fail;go_meet;exact⟨q,r,rfl,rfl,⟨ah,s,ah⟩,t,Y,X⟩)
 case rest=>
  clear v x y A B C;obtain⟨q,r,rfl,rfl,⟨p,s,hb2⟩,t,Y,X⟩:=hcut;obtain⟨w2,Q⟩:=ak (wc);rw[<-Q] at t Y X|-;clear Q;go_wp2_with fail;refine(oJ w2 q q q (i:Nat) (i:Nat) t.o.blk t.o t.o (bW ah) (bW ah)).mono ?_;rintro k w3 ⟨rfl,J,m⟩;have J3:=af J;have V:=af (Y.o.kept t.o.blk m (fun h=>p h.symm));have B3:=af (eP X.o m s);clear J m;go_wp2_with fail;refine(KW3.o _).mono ?_;rintro k w4 ⟨b4,rfl,hb4,L,l⟩;have J4:=af (J3.o.below l (ax _));have K4:=af (V.o.below l (ax _));have I4:=af L;have B4:=af (aH B3.o l);clear L l;go_wp2_with fail;refine(oJ w4 q q b4 ((i:Nat)*(i:Nat)) (fn:Nat) J4.o.blk J4.o I4.o (bW SQC.o) (bW ah)).mono ?_;rintro k w5 ⟨rfl,M,m⟩;have J5:=af M;have Z:=af (K4.o.kept J4.o.blk m (fun h=>p h.symm));have B5:=af (eP B4.o m s);clear M m;go_wp2_with fail;refine(oJ w5 r r r (j:Nat) (j:Nat) Z.o.blk Z.o Z.o (bW ah) (bW ah)).mono ?_;rintro k w6 ⟨rfl,N,m⟩;have K6:=af N;have J6:=af (J5.o.kept Z.o.blk m p);have u:=af (eP B5.o m ah);clear N m;go_wp2_with fail;refine(KW4.o _).mono ?_;rintro k w7 ⟨b7,rfl,hb7,O,l⟩;have J7:=af (J6.o.below l (ax _));have K7:=af (K6.o.below l (ax _));have I7:=af O;have K:=af (aH u.o l);clear O l;go_wp2_with fail;refine(oJ w7 r r b7 ((j:Nat)*(j:Nat)) (n:Nat) K7.o.blk K7.o I7.o (bW SQD.o) (bW ah)).mono ?_;rintro k w8 ⟨rfl,P,m⟩;have K8:=af P;have J8:=af (J7.o.kept K7.o.blk m p);have g:=af (eP K.o m ah);clear P m;have KC:=af (Nv w8 q r ((i:Nat)*(i:Nat)*(fn:Nat)) ((j:Nat)*(j:Nat)*(n:Nat)) J8.o K8.o CUC.o CUD.o);have HZ:=af (show jy c (n:Nat) d (fn:Nat)=decide (0<jq ((i:Nat)*(i:Nat)*(fn:Nat)) ((j:Nat)*(j:Nat)*(n:Nat))) by
   rw[H.o,am2];have q1:(((i:Nat):Int)*(i:Nat)*(fn:Nat))=((i*i*fn:Nat):Int):=ay;have q2:(((j:Nat):Int)*(j:Nat)*(n:Nat))=((j*j*n:Nat):Int):=ay;rw[q1,q2];by_cases h:j*j*n<i*i*fn
   ·rw[kH h,kH ah]
   ·rw[kV h,kV ah])
  generalize jq ((i:Nat)*(i:Nat)*(fn:Nat)) ((j:Nat)*(j:Nat)*(n:Nat))=z at*
  go_wp2_with fail;refine KC.o.mono ?_;rintro k w9 ⟨rfl,n9,rfl⟩;go_wp2;go_ret;exact⟨by rw[HZ.o];rfl,aH g.o (jL _ _)⟩
def JK(w:Wd)(r:Lz)(e:Ending)(w':Wd):Prop:=e=.returned (.tuple #[.agg (agi (dK 8 (jS r).1)),.int .i64 (jS r).2.1,.bool (jS r).2.2])/\Bw w w'
theorem vM{w':Wd}{k:Lz}{e:Int}{b:Bool}(h:jS r=(k,e,b))(a:Bw w w'):JK w r (.returned (.tuple #[.agg (agi (dK 8 k)),.int .i64 e,.bool b])) w':=by
 refine⟨?_,a⟩;rw[h]
theorem QG:dK 8 []=Z8:=rfl
structure Bx4(w wr:Wd)(r kk arr:Lz):Prop where
 A:IB wr w.heap.size 73 r
 R:IB wr (w.heap.size+1) 52 Z8
 K:IB wr (w.heap.size+1+1) 52 kk
 P:IB wr (w.heap.size+1+1+1) 73 arr
 bel:Bw w wr
theorem Bx4.lt{b:Lz}(h:Bx4 w wr r b a):w.heap.size+1+1+1<wr.heap.size:=Blk.lt h.P
theorem Bx4.drew{b:Lz}(h:Bx4 w wr r b a):Bx4 w wr.drew r b a:=⟨h.A,h.R,h.K,h.P,h.bel.drew⟩
theorem Bx4.drewN{b:Lz}(h:Bx4 w wr r b a)(n:Nat):Bx4 w (wr.drewN n) r b a:=⟨h.A,h.R,h.K,h.P,h.bel.trans ⟨rfl,rfl,rfl,ax _,fun _ _=>rfl⟩⟩
theorem Bx4.setK{b:Lz}(h:Bx4 w wr r b a)(i:Nat)(v:Int):Bx4 w (wr.setCell ⟨w.heap.size+1+1,i,none⟩ (.int .i64 v)) r (b.set i v) a:=
 ⟨Blk.far h.A Me _,Blk.far h.R ni _,IB.set_ h.K i v,Blk.far h.P (by show w.heap.size+1+1+1≠w.heap.size+1+1;omega) _,h.bel.setCell (p:=⟨w.heap.size+1+1,i,none⟩) qM _⟩
theorem Bx4.setP{b:Lz}(h:Bx4 w wr r b a)(i:Nat)(v:Int):Bx4 w (wr.setCell ⟨w.heap.size+1+1+1,i,none⟩ (.int .i64 v)) r b (a.set i v):=
 ⟨Blk.far h.A (by show w.heap.size≠w.heap.size+1+1+1;omega) _,Blk.far h.R (by show w.heap.size+1≠w.heap.size+1+1+1;omega) _,Blk.far h.K (by show w.heap.size+1+1≠w.heap.size+1+1+1;omega) _,IB.set_ h.P i v,h.bel.setCell (p:=⟨w.heap.size+1+1+1,i,none⟩) (by show w.heap.size<=w.heap.size+1+1+1;omega) _⟩
theorem Bx4.stored{b:Lz}(h:Bx4 w wr r b a)(o:Obj)(c2:Array Value):Bx4 w ((wr.alloc o).setRow wr.heap.size c2) r b a:=
 ⟨Blk.rowFar (Blk.alloc h.A o) rX,Blk.rowFar (Blk.alloc h.R o) rX,Blk.rowFar (Blk.alloc h.K o) rX,Blk.rowFar (Blk.alloc h.P o) rX,
  aS (h.bel.alloc h.bel.size o) h.bel.size c2⟩
theorem Bx4.start(w:Wd)(r:Lz):Bx4 w (((((w.alloc (.cells (agi r) 73)).alloc (.cells (agi Z8) 52)).alloc (.cells (agi Z8) 52)).alloc (.cells (agi Z9) 73)).setRow (w.heap.size+1+1+1) (agi P0)) r Z8 P0:=by
 have d:=IB.new w 73 r;have a:=IB.new (w.alloc (.cells (agi r) 73)) 52 Z8;have b:=IB.new ((w.alloc (.cells (agi r) 73)).alloc (.cells (agi Z8) 52)) 52 Z8;have c:=IB.new (((w.alloc (.cells (agi r) 73)).alloc (.cells (agi Z8) 52)).alloc (.cells (agi Z8) 52)) 73 Z9;simp only[bT] at a b c;exact⟨Blk.rowFar (((Blk.alloc d _).alloc _).alloc _) ah,Blk.rowFar ((Blk.alloc a _).alloc _) ah,Blk.rowFar (Blk.alloc b _) ah,c.setRow P0,
  aS ((((baqq _ _).alloc ay _).alloc aC _).alloc aC _) ah _⟩
theorem Bx4.start0(w:Wd)(r:Lz):IB ((((w.alloc (.cells (agi r) 73)).alloc (.cells (agi Z8) 52)).alloc (.cells (agi Z8) 52)).alloc (.cells (agi Z9) 73)) (w.heap.size+1+1+1) 73 Z9:=by
 have a:=IB.new (((w.alloc (.cells (agi r) 73)).alloc (.cells (agi Z8) 52)).alloc (.cells (agi Z8) 52)) 73 Z9;simp only[bT] at a;exact a
theorem apt(r:Lz)(w:Wd)(hl:r.length=9):Cl 26 #[.agg (agi r)] w (JK w r):=by
 have M:=af (Bx4.start w r);have O0:=af (Bx4.start0 w r);have hR:=sG (fn:=Tryz.f26) (p:=2) (q:=3) (r:=4) (ty:=52) rfl;have HL:=af hl;have HIX:=af (fun(k:Nat) (hk:k<9) (w:Wd)=>jW bP r hl k hk w);have c0:=IB.cell M.o.A 0 ah;obtain⟨r0,hr0⟩:=ak (r.getD 0 0);rw[<-hr0,dP,jR] at c0;have Q:=af hr0;rw[dP,jR] at M;rw[dP,jR] at O0;rw[<-jR] at O0;clear hl hr0;go_enter Tryz.func26,Tryz.ntmps26;go_wp2_with(first
  |(refine aQ 73 (.tmp 6) (.tmp 16) Z9 P0 9 O0.o bC rfl rfl ?_)
  |(refine aK 73 (.tmp 1) r 9 M.o.A bP bC HL.o ?_))
 go_loop [20] (fun F=> ∃k:Nat,k<=9/\F=.int .i64 k/\Hy (allTo okS r k)) (fun F=>9-(intOf F).toNat)
 case atStart=>exact⟨0,ah,rfl,af allTo.zero⟩
 case round=>
  obtain⟨k,hk,rfl,HY⟩:=hrel;by_cases hlt:k<9
  ·have u:=HIX.o k hlt
   obtain⟨x,hx⟩:=ak (r.getD k 0);rw[<-hx] at u;have HX:=af hx;clear hx;by_cases z:x< -2147483647\/2147483647<x
   ·have D:=af (vM (ae3 (jb (i:=k) qN (ae2 ww))) (aS M.o.bel (g:=w.heap.size+1) ah (agi Z8)))
    rw[QG] at D;rcases z with G|G
    ·have b0: ¬2147483647<x:=ah
     exact ah3
    exact ah3
   have G: -2147483647<=x:=ah;have b2:x<=2147483647:=ah;have HN:=af (HY.o.succ (by rw[<-HX.o];exact ae1 G b2));clear z;exact VM
  obtain rfl:k=9:=ah;have sd:r.all okS=true:=HY.o.all Ui;have RW:=af (YP sd);clear hlt;by_cases J:r0<=0
  ·have D:=af (vM (ae4 (r:=r) (by rw[<-Q.o];exact J)) (aS M.o.bel (g:=w.heap.size+1) ah (agi Z8)))
   rw[QG] at D;clear sd;have I:=af (M.o.R.setRow Z8);go_wp2_with(first
    |(refine aK 52 (.tmp 5) Z8 8 M.o.K aU aJ rfl ?_)
    |(refine aQ 52 (.tmp 2) (.tmp 33) Z8 Z8 8 M.o.R aJ rfl rfl ?_))
   refine aX (v:=_) (hR _ _ _ 52 Z8 _ 8 rfl I.o aU rfl aJ rfl) rfl ?_;exact D.o
  have h0:0<r0:=ah;have W:=af (LevSt.start sd (by rw[<-Q.o];exact h0));rw[<-Q.o] at W;clear sd J;go_wp2;go_loopw[7,10] (fun ev mv wr=> ∃(m:Nat) (e:Int) (t k c:Lz),1<=m/\m<=9/\mv=.int .i64 m/\ev=.int .i64 e/\Hy (LevSt r m t e k)/\Hy (YQ c t)/\Hy (Bx4 w wr r (dK 8 k) c)) (fun _ mv _=>9-(intOf mv).toNat)
  case atStart=>exact⟨1,r0,_,[],P0,ah,ah,rfl,rfl,W,af ⟨rfl,fun j=>XH [] j|>.symm⟩,M⟩
  case round=>
   clear M O0 c0 W;obtain⟨m,e,t,k,c,Z,hm9,rfl,rfl,ST,H,E⟩:=hrel;obtain⟨O,rfl⟩:=ak (wr:Wd);have a:=af (Ij (n:=8) (k:=k) F5);by_cases hlt:m<=8
   ·have AB:=af (ST.o.bnd hm9)
    have he0:=ST.o.e0;have he1:=ST.o.e1;go_wp2;go_loopw[11,39] (fun sv F wr=> ∃(i d:Nat) (s:Int),i<=m/\F=.int .i64 i/\sv=.int .i64 s/\Hy (s=aN (nZ t r m) i)/\Hy (wr=O.drewN d)) (fun _ F _=>m-(intOf F).toNat)
    case atStart=>exact⟨0,0,0,ah,rfl,rfl,af rfl,af rfl⟩
    case round=>
     obtain⟨i,d0,s,hi,rfl,rfl,C,HW⟩:=hrel;obtain rfl:=HW.o;clear HW;by_cases hil:i<m
     ·obtain⟨d,U⟩:∃d:Nat,m=i+d:=⟨m-i,ah⟩
      have hsub:(m:Int)-(i:Int)=(d:Nat):=ah;have c1:=E.o.P.cell i (by rw[H.o.1];omega);have c2:=E.o.A.cell d qi;rw[H.o.2] at c1;have L:=YR (m:=m) AB.o RW.o i;have sb:=Qg (m:=m) AB.o RW.o i ah;rw[<-C.o] at sb;have HT:=aj (aN (nZ t r m) (i+1)=s+nZ t r m i) (Gq);unfold nZ at L HT;rw[show m-i=d from ah] at L HT;generalize t.getD i 0=x at*
      generalize r.getD d 0=y at*
      obtain⟨⟨t1,t2⟩,⟨t3,t4⟩,⟨b,t6⟩⟩:=L;obtain⟨s1,s2⟩:=sb;have hi9:i<9:=ah;have hd9:d<9:=ah;have HD:=af U;clear U;go_wp2;go_quiet (fail);go_wp2;go_roundw;case rel=>exact⟨i+1,_,_,ah,aT,rfl,af (by rw[show aN (nZ t r m) (i+1)=_ from HT.o]),af (by first|rfl|simp)⟩
      case measure=>exact aW
     obtain rfl:m=i:=ah;have B:=af (E.o.drewN d0);have sb:=Qg (m:=m) AB.o RW.o m ah;rw[<-C.o] at sb;obtain⟨s1,s2⟩:=sb;obtain⟨q,hq⟩:=ak ((-s*32768).tdiv e);have tq:=WH (x:= -s*32768) (e:=e) he0;rw[<-hq] at tq;have q1: -9223372036854775808<=q:=ah;have q2:q<=9223372036854775807:=ah;have HQ:=af (show q=(-nJ t r m*32768).tdiv e by rw[hq,C.o,ae5]);have hqe:(-s*32768).tdiv e=q:=hq.symm;have hene: ¬e=0:=ah;clear hq tq hil;by_cases hb:q<= -32000\/32000<=q
     ·have D:=af (vM (ST.o.stop Z hlt HQ.o hb) (aS B.o.bel (g:=w.heap.size+1) ah (agi (dK 8 k))))
      rcases hb with G|G
      ·skip
       have I:=af (B.o.R.setRow (dK 8 k));go_wp2_with(first
        |(refine aK 52 (.tmp 5) (dK 8 k) 8 B.o.K aU aJ a.o ?_)
        |(refine aQ 52 (.tmp 2) (.tmp 67) Z8 (dK 8 k) 8 B.o.R aJ rfl a.o ?_))
       exact Gz
      have b0: ¬q<= -32000:=ah;have I:=af (B.o.R.setRow (dK 8 k));go_wp2_with(first
       |(refine aK 52 (.tmp 5) (dK 8 k) 8 B.o.K aU aJ a.o ?_)
       |(refine aQ 52 (.tmp 2) (.tmp 67) Z8 (dK 8 k) 8 B.o.R aJ rfl a.o ?_))
      exact Gz
     have G: -32000<q:=ah;have b2:q<32000:=ah;clear hb;obtain⟨j,hj⟩:∃j,m=j+1:=⟨m-1,ah⟩;have hsub1:(m:Int)-1=(j:Nat):=ah;have hj8:j<8:=ah;have cK:=B.o.K.cell j (by rw[a.o];exact hj8);have fK:=Blk.frozen B.o.K j;have f:=af (Ij (n:=8) (k:=k++[q]) (by have:=ST.o.lk;simp;omega));have I2:=af (show Bx4 w ((O.drewN d0).setCell ⟨w.heap.size+1+1,j,none⟩ (.int .i64 q)) r (dK 8 (k++[q])) c by
      have:=B.o.setK j q;rw[ack q F5,show k.length=j from F5];exact this)
     have hsz:((O.drewN d0).setCell ⟨w.heap.size+1+1,j,none⟩ (.int .i64 q)).heap.size=O.heap.size:=uQ;have l:=IB.new ((O.drewN d0).setCell ⟨w.heap.size+1+1,j,none⟩ (.int .i64 q)) 73 Z9;have I3:=I2.o.stored (.cells (agi Z9) 73) (agi c);rw[hsz] at l I3;have V:=af (l.setRow c);have l:=af l;have I3:=af I3;have N:=B.o.lt;have hlt1:w.heap.size+1+1+1<O.heap.size:=N;have MID:=af (LevMid.start (q:=q) (m:=m) H.o);rw[jR] at I3 V;clear hsz N hj C;go_wp2_with(first
      |(refine aK 73 (.tmp 6) c 9 I2.o.P bP bC H.o.1 ?_)
      |(refine aQ 73 (.tmp 14) (.tmp 73) Z9 c 9 l.o bC rfl H.o.1 ?_))
     go_loopw[15] (fun F wr=> ∃(i:Nat) (zs:Lz),1<=i/\i<=m+1/\F=.int .i64 i/\Hy (LevMid t zs q m i)/\Hy (Bx4 w wr r (dK 8 (k++[q])) zs)/\Hy (IB wr O.heap.size 73 c)) (fun F _=>m+1-(intOf F).toNat)
     case atStart=>exact⟨1,c,ah,ah,rfl,MID,I3,V⟩
     case round=>
      clear I3 V l I2 MID cK fK;obtain⟨i,zs,hi1,hi2,rfl,HM,h,S⟩:=hrel;by_cases T:i<=m
      ·obtain⟨d,U⟩:∃d:Nat,m=i+d:=⟨m-i,ah⟩
       have hsub:(m:Int)-(i:Int)=(d:Nat):=ah;have c1:=S.o.cell i (by rw[H.o.1];omega);have c2:=S.o.cell d (by rw[H.o.1];omega);have c3:=h.o.P.cell i UZ;have f3:=Blk.frozen h.o.P i;rw[H.o.2] at c1 c2;have bx:=AB.o i;have by':=AB.o d;have STP:=af (HM.o.step hi1 T ah);rw[show m-i=d from ah] at STP;generalize t.getD i 0=x at*
       generalize t.getD d 0=y at*
       obtain⟨bx1,bx2⟩:=bx;obtain⟨by1,by2⟩:=by';have pr:=iU (x:=q) (X:=32768) (y:=y) (Y:=4294967296) ah ah ⟨ah,ah⟩ ⟨ah,ah⟩;have p1: -140737488355328<=q*y:=ah;have p2:q*y<=140737488355328:=ah;have NI:=af (h.o.setP i (x+q*y/32768)).drew;have NW:=af (Blk.far S.o (p:=⟨w.heap.size+1+1+1,i,none⟩) (by show O.heap.size≠w.heap.size+1+1+1;omega) (.int .i64 (x+q*y/32768)));have hd9:d<9:=ah;have hi9:i<9:=ah;clear pr U;go_wp2;go_region;all_goals
        go_wp2;go_roundw;case rel=>exact⟨i+1,_,ah,ah,aT,STP,NI,NW⟩
        case measure=>exact aW
      obtain rfl:i=m+1:=ah;have AF:=af (HM.o.fin ST.o.la);obtain⟨⟨u1,u2⟩,⟨u3,u4⟩,u5,u6⟩:=WI he0 he1 G b2;by_cases hend:e-e*q/32768*q/32768<=0
      ·have D:=af (vM (ST.o.none_ Z hlt HQ.o G b2 hend) (aS h.o.bel (g:=w.heap.size+1) ah (agi (dK 8 (k++[q])))))
       have I:=af (h.o.R.setRow (dK 8 (k++[q])));go_wp2_with(first
        |(refine aK 52 (.tmp 5) (dK 8 (k++[q])) 8 h.o.K aU aJ f.o ?_)
        |(refine aQ 52 (.tmp 2) (.tmp 104) Z8 (dK 8 (k++[q])) 8 h.o.R aJ rfl f.o ?_))
       exact aiI
      have NST:=af (ST.o.next Z hlt HQ.o G b2 ah);have hend2:0<e-e*q/32768*q/32768:=ah;go_wp2;go_roundw;case rel=>exact⟨m+1,_,_,_,zs,ah,ah,aT,rfl,NST,AF,h⟩
      case measure=>exact aW
   obtain rfl:m=9:=ah;have D:=af (vM ST.o.fin (aS E.o.bel (g:=w.heap.size+1) ah (agi (dK 8 k))));clear hlt;have I:=af (E.o.R.setRow (dK 8 k));go_wp2_with(first
    |(refine aK 52 (.tmp 5) (dK 8 k) 8 E.o.K aU aJ a.o ?_)
    |(refine aQ 52 (.tmp 2) (.tmp 105) Z8 (dK 8 k) 8 E.o.R aJ rfl a.o ?_))
   exact Gz
