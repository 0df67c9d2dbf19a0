/- Lemmas. -/
import Derived.Test.YtaahbkbnfpajdaaGreatDoorZef0i
namespace Go.Proofs.YtaahbkbnfpajdaaGreatDoor
set_option linter.all false
set_option maxRecDepth 100000
set_option maxHeartbeats 8000000
open Go.RowKit
variable{num:Int}{k j:Nat}{ps:Lz}
def Ar(w:Wd)(a b:Lz)(num:Int)(e:Ending)(w':Wd):Prop:=e=.returned (.tuple #[.agg (agi (jO a b num)),.int .i64 (bz (lH a b num))])/\Bw w w'
def Z8:Lz:=List.replicate 8 0
def Z9:Lz:=List.replicate 9 0
theorem dP:agi Z8= #[.int .i64 0,.int .i64 0,.int .i64 0,.int .i64 0,.int .i64 0,.int .i64 0,.int .i64 0,.int .i64 0]:=rfl
theorem jR:agi Z9= #[.int .i64 0,.int .i64 0,.int .i64 0,.int .i64 0,.int .i64 0,.int .i64 0,.int .i64 0,.int .i64 0,.int .i64 0]:=rfl
theorem aJ:(Tryz.prog.info? 52).map (·.size)=some 8:=aB
theorem bC:(Tryz.prog.info? 73).map (·.size)=some 9:=aB
theorem IG{w w':Wd}{a b:Lz}(h:lH a b num=false)(c:Bw w w'):Ar w a b num (.returned (.tuple #[.agg (agi Z8),.int .i64 2])) w':=by
 refine⟨?_,c⟩;unfold jO bz;rw[h];rfl
theorem acI{w w':Wd}{a b ys:Lz}(h:lH a b num=true)(d:ys.length=8)(f:∀j,j<8->ys.getD j 0=qo a b num j)(c:Bw w w'):Ar w a b num (.returned (.tuple #[.agg (agi ys),.int .i64 0])) w':=by
 refine⟨?_,c⟩;have e:ys=jO a b num:=by
  apply dM (by rw[d,Il]);intro j g;rw[f j ah];unfold jO;rw[if_pos h,bK,qg,vU ah];rfl
 unfold bz;rw[h,e];rfl
theorem ak5{a b:Lz}(c:k<a.length)(h:a.getD k 0<= -32768\/32768<=a.getD k 0):lH a b num=false:=by
 unfold lH dH;rw[jb c (Ik h)];simp
theorem ak6{a b:Lz}(c:k<b.length)(h:b.getD k 0<= -32768\/32768<=b.getD k 0):lH a b num=false:=by
 unfold lH dH;rw[jb c (Ik h)];simp
structure MixInv(w wr:Wd)(a b ys:Lz):Prop where
 A:IB wr w.heap.size 52 a
 B:IB wr (w.heap.size+1) 52 b
 R:IB wr (w.heap.size+1+1) 52 Z8
 O:IB wr (w.heap.size+1+1+1) 52 ys
 bel:Bw w wr
theorem MixInv.start(w:Wd)(a b:Lz):MixInv w ((((w.alloc (.cells (agi a) 52)).alloc (.cells (agi b) 52)).alloc (.cells (agi Z8) 52)).alloc (.cells (agi Z8) 52)) a b Z8:=by
 have f:=IB.new w 52 a;have c:=IB.new (w.alloc (.cells (agi a) 52)) 52 b;have d:=IB.new ((w.alloc (.cells (agi a) 52)).alloc (.cells (agi b) 52)) 52 Z8;have e:=IB.new (((w.alloc (.cells (agi a) 52)).alloc (.cells (agi b) 52)).alloc (.cells (agi Z8) 52)) 52 Z8;simp only[bT] at c d e;exact⟨((Blk.alloc f _).alloc _).alloc _,(Blk.alloc c _).alloc _,Blk.alloc d _,e,(((baqq _ _).alloc ay _).alloc aC _).alloc aC _⟩
theorem ak7(a b:Lz)(num:Int)(w:Wd)(K:a.length=8)(L:b.length=8):Cl 63 #[.agg (agi a),.agg (agi b),.int .i64 num] w (Ar w a b num):=by
 have i:=af (MixInv.start w a b);by_cases h1:num<0\/4<num
 ·have D:=af ((((((aP _ w).alloc (ax _) (.cells (agi a) 52)).alloc ay (.cells (agi b) 52)).alloc aC (.cells (agi Z8) 52))))
  have e:=IB.new ((w.alloc (.cells (agi a) 52)).alloc (.cells (agi b) 52)) 52 Z8;simp only[bT] at e;have I:=af e;have c:=af (e.setRow Z8);have D:=af (IG (a:=a) (b:=b) (num:=num) (by unfold lH;simp;omega) (aS D.o (g:=w.heap.size+1+1) ah (agi Z8)));clear e;have hR:=nz (fn:=Tryz.f63) (p:=6) (q:=7) (ty:=52) rfl;rcases h1 with h1|h1
  ·have F:decide (num<0)=true:=ja
   go_enter Tryz.func63,Tryz.ntmps63;go_wp2_with(refine aQ 52 (.tmp 6) (.tmp 16) Z8 Z8 8 I.o aJ rfl rfl ?_);exact VR
  have F:decide (num<0)=false:=aC;have Q:decide (4<num)=true:=ja;go_enter Tryz.func63,Tryz.ntmps63;go_wp2_with(refine aQ 52 (.tmp 6) (.tmp 16) Z8 Z8 8 I.o aJ rfl rfl ?_);exact VR
 have S:0<=num:=ah;have T:num<=4:=ah;have F:decide (num<0)=false:=aC;have Q:decide (4<num)=false:=aC;clear h1;rw[dP] at i;have HA:=af K;have H:=af L;clear K L;go_enter Tryz.func63,Tryz.ntmps63;go_wp2;go_loopw[17] (fun C wr=> ∃(k:Nat) (ys:Lz),k<=8/\C=.int .i64 k/\Hy (ys.length=8/\(allTo okR a k/\allTo okR b k)/\∀j,j<k->ys.getD j 0=qo a b num j)/\Hy (MixInv w wr a b ys)) (fun C _=>8-(intOf C).toNat)
 case atStart=>exact⟨0,Z8,ah,rfl,af ⟨rfl,⟨allTo.zero,allTo.zero⟩,fun j h=>ah⟩,i⟩
 case round=>
  clear i;obtain⟨k,ys,hk,rfl,HY,E⟩:=hrel;by_cases hlt:k<8
  ·have Y:=E.o.A.cell k uP
   have P:=E.o.B.cell k (by rw[H.o];exact hlt);have X:=E.o.O.cell k uO;have Z:=E.o.O.frozen k;obtain⟨x,t⟩:=ak (a.getD k 0);obtain⟨y,u⟩:=ak (b.getD k 0);rw[<-t] at Y;rw[<-u] at P;have f:=af t;have d:=af u;clear t u;by_cases z:(x<= -32768\/32768<=x)\/(y<= -32768\/32768<=y)
   ·have D:=af (fun(w1:Wd)=>IG (w:=w) (w':=w1) (a:=a) (b:=b) (num:=num) (by
     rcases z with h|h
     ·exact ak5 (k:=k) uP (by rw[<-f.o];exact h)
     ·exact ak6 (k:=k) (by rw[H.o];exact hlt) (by rw[<-d.o];exact h)))
    have hB:=af (aS E.o.bel (g:=w.heap.size+1+1) ah (agi Z8));have I:=af (E.o.R.setRow Z8);have hR:=nz (fn:=Tryz.f63) (p:=6) (q:=7) (ty:=52) rfl;by_cases l:x<= -32768
    ·exact VH
    by_cases m:32768<=x
    ·exact VH
    by_cases n:y<= -32768
    ·exact VH
    have s:32768<=y:=ah;exact VH
   have l: -32768<x:=ah;have m:x<32768:=ah;have n: -32768<y:=ah;have s:y<32768:=ah;obtain⟨m1,J,m3,m4⟩:=acl ⟨l,m⟩ ⟨n,s⟩ ⟨S,T⟩;have r:=aj (Hy ((ys.set k ((x*(4-num)+y*num).tdiv 4)).length=8/\(allTo okR a (k+1)/\allTo okR b (k+1))/\∀j,j<k+1->(ys.set k ((x*(4-num)+y*num).tdiv 4)).getD j 0=qo a b num j)) (by
    obtain⟨q1,⟨U,V⟩,W⟩:=HY.o;refine⟨wI,⟨U.succ (by rw[<-f.o];exact Dn l m),V.succ (by rw[<-d.o];exact Dn n s)⟩,fun j hj=>?_⟩;by_cases M:k=j
    ·subst M
     rw[gQ _ _ _ ah,qo,<-f.o,<-d.o]
    ·rw[gV _ _ M]
     exact W j ah)
   have N:=af (fun v=>show MixInv w (wr.setCell ⟨w.heap.size+1+1+1,k,none⟩ (.int .i64 v)).drew a b (ys.set k v) from
    ⟨Blk.far E.o.A (by simp;try omega) _,Blk.far E.o.B (by simp;try omega) _,Blk.far E.o.R (by simp;try omega) _,E.o.O.set_ k v,rQ (E.o.bel.setCell (p:=⟨w.heap.size+1+1+1,k,none⟩) (show w.heap.size<=w.heap.size+1+1+1 from ah) _)⟩)
   clear z;go_wp2;go_region;all_goals
    go_wp2;go_roundw;case rel=>exact⟨k+1,_,ah,aT,r.o,N.o _⟩
    case measure=>exact aW
  obtain rfl:k=8:=ah;have G:lH a b num=true:=by
   unfold lH dH;rw[HY.o.2.1.1.all MH,HY.o.2.1.2.all (by rw[H.o];exact ax _)];simp;omega
  have D:=af (fun(w1:Wd)=>acI (w:=w) (w':=w1) G HY.o.1 HY.o.2.2);have hB:=af (aS E.o.bel (g:=w.heap.size+1+1) ah (agi ys));have I:=af (E.o.R.setRow ys);have hR:=nz (fn:=Tryz.f63) (p:=6) (q:=7) (ty:=52) rfl;clear hlt G;go_wp2_with(first
   |(refine aK 52 (.tmp 8) ys 8 E.o.O aU aJ HY.o.1 ?_)
   |(refine aQ 52 (.tmp 6) (.tmp 59) Z8 ys 8 E.o.R aJ rfl HY.o.1 ?_))
  refine aX (v:=_) (hR _ _ _ 52 ys _ 8 rfl I.o aU rfl aJ HY.o.1) rfl ?_;exact D.o _ hB.o
def Xg(w:Wd)(b:Bool)(e:Ending)(w':Wd):Prop:=e=.returned (.bool b)/\Bw w w'
theorem Xh(a:Lz)(w:Wd)(c:a.length=8):Cl 137 #[.agg (agi a)] w (Xg w (dH a)):=by
 have h:=af (IB.new w 52 a);have HA:=af c;have u:=fun(k:Nat) (g:k<8) (w:Wd)=>jW aU a c k g w;have b:=af u;clear c u;go_enter Tryz.func137,Tryz.ntmps137;go_wp2_with(refine aK 52 (.tmp 1) a 8 h.o aU aJ HA.o ?_);go_loop [6] (fun e=> ∃k:Nat,k<=8/\e=.int .i64 k/\Hy (allTo okR a k)) (fun e=>8-(intOf e).toNat)
 case atStart=>exact⟨0,ah,rfl,af allTo.zero⟩
 case round=>
  obtain⟨k,g,rfl,f⟩:=hrel;by_cases hlt:k<8
  ·have u:=b.o k hlt
   obtain⟨x,d⟩:=ak (a.getD k 0);rw[<-d] at u;have HX:=af d;clear d;by_cases b1:x<= -32768
   ·have HF:=aj (dH a=false) (jb (i:=k) uP (Ik MJ))
    exact abz
   by_cases b2:32768<=x
   ·have HF:=aj (dH a=false) (jb (i:=k) uP (Ik MK))
    exact abz
   have HN:=af (f.o.succ (by rw[<-HX.o];exact Dn ah ah));exact VM
  obtain rfl:k=8:=ah;have HF:=aj (dH a=true) (f.o.all MH);exact abz
def lvM(i:Int):Int:=2^(fD i).toNat
def ed(i n:Int):Int:=if fD i=0 then 4 else if n<0\/lvM i<=n then 2 else 0
def jF(m n:Int):Int:=31000-31000*(2*(m-n)-1)*(2*(m-n)-1)/(m*m)
def lvV(i n:Int):Int:=if ed i n=0 then(if 2*n<lvM i then-jF (lvM i) (lvM i-1-n) else jF (lvM i) n) else 0
theorem adb(i:Int)(w:Wd)(T:TabS w 2 dh):
 Cl 170 #[.int .i64 i] w fun e w'=>e=.returned (.int .i64 (fD i))/\w=w':=by
 by_cases a:i<0\/7<i
 ·rw[XE a]
  rcases a with a|a
  ·exact abH
  have h:0<=i:=ah;exact abH
 ·obtain⟨k,rfl⟩:=gI (show 0<=i from ah)
  have g:k<8:=ah;obtain⟨A,c,b,I,d⟩:=T.form;obtain⟨f,rfl,d⟩:=d k g;have b:w.cell? ⟨2,0,none⟩=some (.slice (some f) 8 c):=b;rw[show fD (k:Nat)=dh.getD k 0 from abb];generalize dh.getD k 0=v at*
  clear a T I;exact abH
theorem Ou(r m:Int)(a:0<=r)(b:r<=m)(O:m<=128):0<=31000*r/\31000*r<=3968000/\0<=31000*r*r/\31000*r*r<=507904000:=by
 have c:31000*r*r<=3968000*128:=Int.mul_le_mul ah ah a ah;have d:0<=31000*r*r:=qL ah a;omega
def kR(i n:Int)(w:Wd)(e:Ending)(w':Wd):Prop:=e=.returned (.tuple #[.int .i64 (lvV i n),.int .i64 (ed i n)])/\w=w'
def Bs(B M O:Int):Prop:=B=6/\M=64/\O=63\/B=5/\M=32/\O=31\/B=4/\M=16/\O=15\/B=3/\M=8/\O=7
theorem Bs.lin{B M O:Int}(h:Bs B M O):O=M-1/\8<=M/\M<=64/\O%2=1:=by unfold Bs at h;omega
theorem Bs.sq{B M O x:Int}(h:Bs B M O)(a:0<=x)(b:x<=507904000):0<=x/(M*M)/\x/(M*M)<=507904000:=by
 rcases h with⟨_,rfl,_⟩|⟨_,rfl,_⟩|⟨_,rfl,_⟩|⟨_,rfl,_⟩<;>omega
theorem Bs.lv{B M O i:Int}(h:Bs B M O)(a:fD i=B):lvM i=M/\fD i≠0:=by
 unfold lvM;rw[a];rcases h with⟨rfl,rfl,_⟩|⟨rfl,rfl,_⟩|⟨rfl,rfl,_⟩|⟨rfl,rfl,_⟩<;>exact⟨rfl,aA⟩
theorem Ov(B M O:Int)(H:Bs B M O)(i n:Int)(w:Wd)(h:fD i=B)(K:Cl 141 #[.int .i64 i] w fun e w'=>e=.returned (.int .i64 (B))/\w=w'):
 Cl 62 #[.int .i64 i,.int .i64 n] w (kR i n w):=by
 obtain⟨d,I⟩:=H.lv h;obtain⟨r,s,c,f⟩:=H.lin;have K:=af K;by_cases b:n<0\/O<n
 ·have J:ed i n=2:=by unfold ed;rw[if_neg I,if_pos ah]
  have a:lvV i n=0:=by unfold lvV;rw[if_neg ah]
  have D:kR i n w (.returned (.tuple #[.int .i64 0,.int .i64 2])) w:=⟨by rw[J,a],rfl⟩;have D:=af D;clear h I d J a;rcases b with b|b
  ·exact VG
  have t: ¬n<0:=ah;exact VG
 ·have J:ed i n=0:=Vu
  have u:0<=n:=ah;have v:n<=O:=ah;have x: ¬n<0:=ah;have y: ¬O<n:=ah;by_cases Z:2*n<M
  ·have N:2*n-O<0:=ah
   have a:lvV i n= -jF M (M-1-n):=(by unfold lvV;rw[if_pos J,d,if_pos Z]);have q:=Ou (M+(2*n-O)) 128 ah ah ah;obtain⟨k,l,j,m⟩:=q;obtain⟨o,p⟩:=H.sq j ah;have g:jF M (M-1-n)=31000-31000*(M+(2*n-O))*(M+(2*n-O))/(M*M):=by
    unfold jF;rw[show 2*((M:Int)-(M-1-n))-1=M+(2*n-O) from ah]
   have D:kR i n w (.returned (.tuple #[.int .i64 (-(31000-31000*(M+(2*n-O))*(M+(2*n-O))/(M*M))),.int .i64 0])) w:=⟨by rw[J,a,g],rfl⟩;have D:=af D;clear h I d J a g b Z;exact VG
  have N: ¬2*n-O<0:=ah;have a:lvV i n=jF M n:=by unfold lvV;rw[if_pos J,d,if_neg Z]
  have q:=Ou (M-(2*n-O)) 128 ah ah ah;obtain⟨k,l,j,m⟩:=q;obtain⟨o,p⟩:=H.sq j ah;have g:jF M n=31000-31000*(M-(2*n-O))*(M-(2*n-O))/(M*M):=by
   unfold jF;rw[show 2*((M:Int)-n)-1=M-(2*n-O) from ah]
  have D:kR i n w (.returned (.tuple #[.int .i64 (31000-31000*(M-(2*n-O))*(M-(2*n-O))/(M*M)),.int .i64 0])) w:=⟨by rw[J,a,g],rfl⟩;have D:=af D;clear h I d J a g b Z;exact VG
theorem XG{i n:Int}(h:fD i=0):ed i n=4:=by unfold ed;rw[if_pos h]
theorem adc{i n:Int}(h:fD i=0):lvV i n=0:=by unfold lvV;rw[XG h];rfl
theorem al0(i n:Int)(w:Wd)(a:fD i=0)(K:Cl 141 #[.int .i64 i] w fun e w'=>e=.returned (.int .i64 0)/\w=w'):
 Cl 62 #[.int .i64 i,.int .i64 n] w (kR i n w):=by
 have D:kR i n w (.returned (.tuple #[.int .i64 0,.int .i64 4])) w:=⟨by rw[XG a,adc a],rfl⟩;have D:=af D;have K:=af K;clear a;go_enter Tryz.func62,Tryz.ntmps62;go_wp2_with(go_at_call 141;(with_reducible refine K.o.mono ?_);rintro e w' ⟨rfl,rfl⟩);go_ret2;exact D.o
theorem ade(i n:Int)(w:Wd)(T:TabA w 3 dh):
 Cl 62 #[.int .i64 i,.int .i64 n] w (kR i n w):=by
 have K:=XF i w T;rcases DD i with⟨h,_⟩|⟨h,_⟩|⟨h,_⟩|⟨h,_⟩|⟨h,_⟩
 ·rw[h] at K;exact al0 i n w h K
 ·rw[h] at K;exact Ov 6 64 63 (.inl ⟨rfl,rfl,rfl⟩) i n w h K
 ·rw[h] at K;exact Ov 5 32 31 (.inr (.inl ⟨rfl,rfl,rfl⟩)) i n w h K
 ·rw[h] at K;exact Ov 4 16 15 (.inr (.inr (.inl ⟨rfl,rfl,rfl⟩))) i n w h K
 ·rw[h] at K;exact Ov 3 8 7 (.inr (.inr (.inr ⟨rfl,rfl,rfl⟩))) i n w h K
theorem adf(B M O:Int)(H:Bs B M O)(i n:Int)(w:Wd)(d:fD i=B)(j:M<=2*n)(k:n<M)(K:Cl 170 #[.int .i64 i] w fun e w'=>e=.returned (.int .i64 (B))/\w=w'):
 Cl 107 #[.int .i64 i,.int .i64 n] w (kR i n w):=by
 obtain⟨a,I⟩:=H.lv d;obtain⟨r,s,c,f⟩:=H.lin;have K:=af K;have J:ed i n=0:=Vu;have l:0<=n:=ah;have m: ¬n<0:=ah;have p: ¬M<=n:=ah;have g: ¬2*n<M:=ah;have b:lvV i n=jF M n:=by unfold lvV;rw[if_pos J,a,if_neg g]
 obtain⟨q,t,h,u⟩:=Ou (2*(M-n)-1) 128 ah ah ah;obtain⟨v,x⟩:=H.sq h ah;have D:kR i n w (.returned (.tuple #[.int .i64 (31000-31000*(2*(M-n)-1)*(2*(M-n)-1)/(M*M)),.int .i64 0])) w:=⟨by rw[J,b];rfl,rfl⟩;have D:=af D;clear d I a J b;clear r s c f;rcases H with⟨rfl,rfl,rfl⟩|⟨rfl,rfl,rfl⟩|⟨rfl,rfl,rfl⟩|⟨rfl,rfl,rfl⟩<;>(
  go_enter Sv,Sz;go_wp2_with(go_at_call 170;(with_reducible refine K.o.mono ?_);rintro e w' ⟨rfl,rfl⟩);go_ret2;exact D.o)
theorem Ox(B M O:Int)(H:Bs B M O)(i n:Int)(w:Wd)(h:fD i=B)(K:Cl 170 #[.int .i64 i] w fun e w'=>e=.returned (.int .i64 (B))/\w=w'):
 Cl 107 #[.int .i64 i,.int .i64 n] w (kR i n w):=by
 obtain⟨k,I⟩:=H.lv h;obtain⟨r,s,c,f⟩:=H.lin;by_cases j:n<0\/O<n
 ·have J:ed i n=2:=by unfold ed;rw[if_neg I,if_pos ah]
  have d:lvV i n=0:=by unfold lvV;rw[if_neg ah]
  have D:kR i n w (.returned (.tuple #[.int .i64 0,.int .i64 2])) w:=⟨by rw[J,d],rfl⟩;have D:=af D;have K:=af K;clear h I k J d;rcases j with j|j
  ·exact aig
  have y: ¬n<0:=ah;have z:M<=n:=ah;exact aig
 ·by_cases Z:2*n<M
  ·have J:ed i n=0:=Vu
   have a:ed i (O-n)=0:=Vu;have d:lvV i n= -jF M (M-1-n):=(by unfold lvV;rw[if_pos J,k,if_pos Z]);have g:lvV i (O-n)=jF M (M-1-n):=(by unfold lvV;rw[if_pos a,k,if_neg ah,show(O:Int)-n=M-1-n from ah]);have b:=adf B M O H i (O-n) w h ah ah K;unfold kR at b;rw[a,g] at b;have b:=af b;have K:=af K;have A:0<=n:=ah;have C:n<M:=ah;have E: ¬n<0:=ah;have F: ¬M<=n:=ah;obtain⟨p,q,l,t⟩:=Ou (2*(M-(M-1-n))-1) 128 ah ah ah;obtain⟨u,x⟩:=H.sq l ah;have m: -507904000<=jF M (M-1-n)/\jF M (M-1-n)<=31000:=(by unfold jF;omega);obtain⟨G,L⟩:=m;generalize jF M (M-1-n)=v at*
   have D:kR i n w (.returned (.tuple #[.int .i64 (-v),.int .i64 0])) w:=⟨by rw[J,d],rfl⟩;have D:=af D;clear h I k J d a g j p q l t u x;clear r s c f;rcases H with⟨rfl,rfl,rfl⟩|⟨rfl,rfl,rfl⟩|⟨rfl,rfl,rfl⟩|⟨rfl,rfl,rfl⟩<;>(
    go_enter Sv,Sz;go_wp2_with(first
     |(go_at_call 170;(with_reducible refine K.o.mono ?_);rintro e w' ⟨rfl,rfl⟩)
     |(go_at_call 107;(with_reducible refine b.o.mono ?_);rintro e w' ⟨rfl,rfl⟩))
    go_ret2;exact D.o)
  exact adf B M O H i n w h ah ah K
theorem al1(i n:Int)(w:Wd)(a:fD i=0)(K:Cl 170 #[.int .i64 i] w fun e w'=>e=.returned (.int .i64 0)/\w=w'):
 Cl 107 #[.int .i64 i,.int .i64 n] w (kR i n w):=by
 have D:kR i n w (.returned (.tuple #[.int .i64 0,.int .i64 4])) w:=⟨by rw[XG a,adc a],rfl⟩;have D:=af D;have K:=af K;clear a;go_enter Sv,Sz;go_wp2_with(go_at_call 170;(with_reducible refine K.o.mono ?_);rintro e w' ⟨rfl,rfl⟩);go_ret2;exact D.o
theorem adg(i n:Int)(w:Wd)(T:TabS w 2 dh):
 Cl 107 #[.int .i64 i,.int .i64 n] w (kR i n w):=by
 have K:=adb i w T;rcases DD i with⟨h,_⟩|⟨h,_⟩|⟨h,_⟩|⟨h,_⟩|⟨h,_⟩
 ·rw[h] at K;exact al1 i n w h K
 ·rw[h] at K;exact Ox 6 64 63 (.inl ⟨rfl,rfl,rfl⟩) i n w h K
 ·rw[h] at K;exact Ox 5 32 31 (.inr (.inl ⟨rfl,rfl,rfl⟩)) i n w h K
 ·rw[h] at K;exact Ox 4 16 15 (.inr (.inr (.inl ⟨rfl,rfl,rfl⟩))) i n w h K
 ·rw[h] at K;exact Ox 3 8 7 (.inr (.inr (.inr ⟨rfl,rfl,rfl⟩))) i n w h K
def amm(w:Wd)(g:Nat)(e:Ending)(w':Wd):Prop:=∃A c,e=.returned (.slice A 25 c)/\OwnF w' w.heap.size A c g 25/\Bw w w'
theorem amn(w:Wd)(g base:Nat)(a:base<=w.heap.size):OwnF (w.alloc (.cells #[.pointer (some ⟨g,0,none⟩),.int .i64 2,.int .i64 2] 133)) base (some ⟨w.heap.size,0,none⟩) 1 g 1:=
 y9 (base:=base) (e:=133) (size:=3) w #[.pointer (some ⟨g,0,none⟩),.int .i64 2,.int .i64 2] 1 a jg rfl
theorem amo(a:k<8):pkB.getD (k+1) 0=fD (k:Nat)/\pkT.getD (k+1) 0=2^(fD (k:Nat)).toNat-1:=by
 have:k=0\/k=1\/k=2\/k=3\/k=4\/k=5\/k=6\/k=7:=ah;rcases this with rfl|rfl|rfl|rfl|rfl|rfl|rfl|rfl<;>decide
theorem DR{w:Wd}{base c g n:Nat}{A:Oz}(h:OwnF w base A c g n):∀k,A.map (·.block)=some k->base<=k:=by
 intro k hk;exact ajd
theorem XN(g:Nat)(w:Wd)(T:TabA w 3 dh):
 Cl 84 #[.pointer (some ⟨g,0,none⟩)] w (amm w g):=by
 have M:=af T;have I:=af (amn w g w.heap.size (ax _));have E:=af (baqq w (.cells #[.pointer (some ⟨g,0,none⟩),.int .i64 2,.int .i64 2] 133));clear T;go_enter Tryz.func84,Tryz.ntmps84;go_wp2;go_loopw[3,14] (fun i f wr=> ∃(k:Nat) (A:Oz) (c:Nat),k<=8/\f=.int .i64 k/\i=.slice A (k+1) c/\Hy (OwnF wr w.heap.size A c g (k+1))/\Hy (Bw w wr)) (fun _ f _=>8-(intOf f).toNat)
 case atStart=>exact⟨0,_,_,ah,rfl,rfl,I,E⟩
 case round=>
  clear I E;obtain⟨k,A,c,U,rfl,rfl,Q,H⟩:=hrel;by_cases a:k<8
  ·have G:=af (fun W (h:TabA W 3 dh)=>XF (k:Nat) W h)
   have N:=af (M.o.below H.o);have x:=amo a;have V:(0:Int)<=k:=ah;have X:(k:Int)<8:=ah;obtain⟨v,J⟩:=ak (fD (k:Nat));rw[<-J] at x G;have D:v=3\/v=4\/v=5\/v=6:=by
    rcases DD (k:Nat) with h|h|h|h|h<;>omega
   have r:=af x;clear x J;have S:=af a;rcases D with rfl|rfl|rfl|rfl;all_goals
    go_wp2_with(first
     |(go_at_call 141;(with_reducible refine(G.o _ N.o).mono ?_);rintro e w' ⟨rfl,rfl⟩)
     |(at_builtin;refine ady rfl (.tmp 19) (.tmp 31) rfl w.heap.size A c g (k+1) 1 (k+1+1) rfl rfl (Q.o.alloc _) wr.heap.size _ rfl (Blk.new wr _ _) (adu g (k+1) (adt g ah r.o.1 r.o.2)) ah TU ?_;intro p z L hO hG;have d:=af hO;have b:=af ((H.o.alloc H.o.size _).grown hG TU (DR Q.o));clear hO hG))
    go_roundw;case rel=>exact⟨k+1,p,z,ah,aT,rfl,d,b⟩
    case measure=>exact aW
  obtain rfl:k=8:=ah;have P:(8:Nat)+1=9:=rfl;rw[P] at Q|-;try rw[show((8:Nat):Int)=8 from rfl]
  go_wp2;go_loopw[3,34] (fun i f wr=> ∃(s n:Nat) (A:Oz) (c:Nat),s<=2/\n=9+8*s/\f=.int .i64 s/\i=.slice A n c/\Hy (OwnF wr w.heap.size A c g n)/\Hy (Bw w wr)) (fun _ f _=>2-(intOf f).toNat)
  case atStart=>exact⟨0,9,_,_,ah,rfl,rfl,rfl,Q,H⟩
  case round=>
   clear Q H;obtain⟨s,n,A,c,Z,C,rfl,rfl,Q,H⟩:=hrel;by_cases a:s<2
   ·obtain rfl|rfl:s=0\/s=1:=ah
    ·obtain rfl:n=9:=C
     try rw[show((0:Nat):Int)=0 from rfl]
     have l:decide ((0:Int)<2)=true:=rfl;go_wp2;go_region_held3 (fun _=>True) (trivial) (first
      |(refine OI rfl (.tmp 42) (.tmp 51) rfl w.heap.size A c g 9 2 11 rfl rfl (Q.o.alloc _).drew wr.heap.size _ rfl (Blk.drew (Blk.new wr _ _)) (OH g 9 rfl) ah zy ?_;intro p z L hO hG;have d:=af hO;have b:=af (((H.o.alloc H.o.size _).drew).grown hG zy (DR Q.o));clear hO hG))
     rename_i hHeldZ;clear hHeldZ Q H;try simp only[Exit.then]
     go_wp2;go_loopw[3,53] (fun i j wr=> ∃(t m:Nat) (A:Oz) (c:Nat),t<=4/\m=11+t/\j=.int .i64 t/\i=.slice A m c/\Hy (OwnF wr w.heap.size A c g m)/\Hy (Bw w wr)) (fun _ j _=>4-(intOf j).toNat)
     case atStart=>exact⟨0,11,_,_,ah,rfl,rfl,rfl,d,b⟩
     case round=>
      clear d b;obtain⟨t,m,A,c,F,O,rfl,rfl,Q,H⟩:=hrel;by_cases a:t<4
      ·exact ahM
      obtain rfl:t=4:=ah;obtain rfl:m=15:=O;go_wp2;go_region_held3 (fun _=>True) (trivial) (first
       |(refine OI rfl (.tmp 66) (.tmp 75) rfl w.heap.size A c g 15 2 17 rfl rfl (Q.o.alloc _).drew wr.heap.size _ rfl (Blk.drew (Blk.new wr _ _)) (OH g 15 rfl) ah zy ?_;intro q B R hO hG;have y:=af hO;have K:=af (((H.o.alloc H.o.size _).drew).grown hG zy (DR Q.o));clear hO hG))
      rename_i hHeldZ;clear hHeldZ Q H;try simp only[Exit.then]
      go_wp2;go_roundw;case rel=>exact⟨0+1,17,q,B,ah,ah,rfl,rfl,y,K⟩
      case measure=>exact aW
    obtain rfl:n=17:=C;try rw[show((1:Nat):Int)=1 from rfl]
    have l:decide ((1:Int)<2)=true:=rfl;go_wp2;go_region_held3 (fun _=>True) (trivial) (first
     |(refine OI rfl (.tmp 42) (.tmp 51) rfl w.heap.size A c g 17 2 19 rfl rfl (Q.o.alloc _).drew wr.heap.size _ rfl (Blk.drew (Blk.new wr _ _)) (OH g 17 rfl) ah zy ?_;intro p z L hO hG;have d:=af hO;have b:=af (((H.o.alloc H.o.size _).drew).grown hG zy (DR Q.o));clear hO hG))
    rename_i hHeldZ;clear hHeldZ Q H;try simp only[Exit.then]
    go_wp2;go_loopw[3,53] (fun i j wr=> ∃(t m:Nat) (A:Oz) (c:Nat),t<=4/\m=19+t/\j=.int .i64 t/\i=.slice A m c/\Hy (OwnF wr w.heap.size A c g m)/\Hy (Bw w wr)) (fun _ j _=>4-(intOf j).toNat)
    case atStart=>exact⟨0,19,_,_,ah,rfl,rfl,rfl,d,b⟩
    case round=>
     clear d b;obtain⟨t,m,A,c,F,O,rfl,rfl,Q,H⟩:=hrel;by_cases a:t<4
     ·exact ahM
     obtain rfl:t=4:=ah;obtain rfl:m=23:=O;go_wp2;go_region_held3 (fun _=>True) (trivial) (first
      |(refine OI rfl (.tmp 66) (.tmp 75) rfl w.heap.size A c g 23 2 25 rfl rfl (Q.o.alloc _).drew wr.heap.size _ rfl (Blk.drew (Blk.new wr _ _)) (OH g 23 rfl) ah zy ?_;intro q B R hO hG;have y:=af hO;have K:=af (((H.o.alloc H.o.size _).drew).grown hG zy (DR Q.o));clear hO hG))
     rename_i hHeldZ;clear hHeldZ Q H;try simp only[Exit.then]
     go_wp2;go_roundw;case rel=>exact⟨1+1,25,q,B,ah,ah,rfl,rfl,y,K⟩
     case measure=>exact aW
   obtain rfl:s=2:=ah;obtain rfl:n=25:=C;go_wp2;go_ret;exact⟨A,c,rfl,Q.o,H.o⟩
def qA(ps:Lz)(i:Nat):Prop:=0<=ps.getD i 0/\ps.getD i 0<=pkT.getD i 0
instance (ps:Lz) (i:Nat):Decidable (qA ps i):=by unfold qA;infer_instance
def dD(ps:Lz)(n:Nat):Bool:=(List.range n).all (fun i=>decide (qA ps i))
theorem adz(ps:Lz):dD ps 0=true:=rfl
theorem adA{n:Nat}(h:dD ps n=true)(a:qA ps n):dD ps (n+1)=true:=by
 unfold dD at*
 rw[Si,List.all_append,h];simp[a]
theorem adB{n m:Nat}(hn:n<m)(h2: ¬qA ps n):dD ps m=false:=by
 unfold dD;rw[List.all_eq_false];exact⟨n,wH,zJ⟩
theorem Jc{n i:Nat}(h:dD ps n=true)(hi:i<n):qA ps i:=by
 unfold dD at h;rw[lM] at h;simpa using h i Nc
theorem adC(ps:Lz)(w:Wd)(T:TabA w 3 dh)(D:ps.length=25):
 Cl 82 #[.agg (agi ps)] w fun e w'=>e=.returned (.bool (dD ps 25))/\Bw w w':=by
 have P0:=af (IB.new w 81 ps);have j:=af (baqq w (.cells (agi ps) 81));have v:=af (T.below j.o);have HL:=af D;clear T D;obtain⟨V,m⟩:=ak (w.alloc (.cells (agi ps) 81));rw[<-m] at P0 j v;have s:=af m;clear m;go_enter Tryz.func82,Tryz.ntmps82;go_wp2_with(first
  |(rw[<-s.o];clear s)
  |(go_at_call 84;(with_reducible refine(XN w.heap.size V v.o).mono ?_);rintro e G ⟨A,c,rfl,C,l⟩;obtain⟨b,rfl,a,f,g⟩:=OwnF.at_ C ah;have k:=af a;have I:=af f;have L:=af g;have u:=af (Blk.below' P0.o l);have B1:=af (aH j.o l);clear C l a f g))
 go_loopw[7] (fun r wr=> ∃i:Nat,i<=25/\r=.int .i64 i/\Hy (dD ps i=true)/\Hy (Bw G wr)) (fun r _=>25-(intOf r).toNat)
 case atStart=>exact⟨0,ah,rfl,af (adz ps),af (aP _ _)⟩
 case round=>
  obtain⟨i,hi,rfl,HP,H⟩:=hrel;by_cases hlt:i<25
  ·obtain⟨y,z,B⟩:=L.o i hlt
   have q:=H.o.size;have a:=k.o;have K:wr.cell? ⟨b,i*3,none⟩=some (.pointer (some ⟨w.heap.size,i,none⟩)):=(by rw[jm];exact(H.o.cell (p:=⟨b,3*i,none⟩) a).trans y);have M:wr.cell? ⟨b,i*3+1,none⟩=some (.int .i64 (pkB.getD i 0)):=(by rw[jm];exact(H.o.cell (p:=⟨b,3*i+1,none⟩) a).trans z);have c2:wr.cell? ⟨b,i*3+2,none⟩=some (.int .i64 (pkT.getD i 0)):=(by rw[jm];exact(H.o.cell (p:=⟨b,3*i+2,none⟩) a).trans B);have E:wr.cell? ⟨w.heap.size,i,none⟩=some (.int .i64 (ps.getD i 0)):=IB.cell (Blk.below' u.o H.o) i qN;have n:w.heap.size<wr.heap.size:=Blk.lt (Blk.below' u.o H.o);have HN:=af (fun h=>adB (ps:=ps) hlt h);have J:=af (fun h=>adA HP.o h);have HD:=aj (qA ps i↔0<=ps.getD i 0/\ps.getD i 0<=pkT.getD i 0) (Iff.rfl);generalize ps.getD i 0=x at*
   generalize pkT.getD i 0=t at*
   generalize pkB.getD i 0=bb at*
   have Q:(0:Int)<=i:=ah;have P:(i:Int)<25:=ah;obtain⟨W,d⟩:=ak (wr.alloc (.cells #[.pointer (some ⟨w.heap.size,i,none⟩),.int .i64 bb,.int .i64 t] 133));have R:W.cell? ⟨wr.heap.size,0,none⟩=some (.pointer (some ⟨w.heap.size,i,none⟩)):=(by rw[d];exact Blk.cell (Blk.new wr _ _) 0);have S:W.cell? ⟨wr.heap.size,2,none⟩=some (.int .i64 t):=(by rw[d];exact Blk.cell (Blk.new wr _ _) 2);have U:W.cell? ⟨w.heap.size,i,none⟩=some (.int .i64 x):=(by rw[d];exact((baqq wr _).cell (p:=⟨w.heap.size,i,none⟩) n).trans E);have BW:=af (show Bw G W by rw[d];exact H.o.alloc q _);clear y z B;go_wp2;rw[<-d];clear d K M c2 E;by_cases hx:x<0
   ·have N:decide (x<0)=true:=Gp
    exact aiz
   have N:decide (x<0)=false:=Gp;by_cases F:t<x
   ·have O:decide (t<x)=true:=by simpa using F
    exact aiz
   have O:decide (t<x)=false:=(by simpa using F);go_quiet (fail);go_wp2;go_roundw;case rel=>exact⟨i+1,ah,aT,af (J.o (HD.o.2 ah)),af (aH BW.o (jL W _))⟩
   case measure=>exact aW
  exact ai4
def iL(X:Nat):Nat->Nat
 |0=>0
 |k+1=>iL X k+X/2^k%2
theorem OJ(X:Nat){m:Nat}(h:X/2^j=0)(O:j<=m):iL X m=iL X j:=by
 induction m with
 |zero=>obtain rfl:j=0:=by omega
        rfl
 |succ m ih=>
  by_cases e:j=m+1
  ·rw[e]
  have a:=ih ah;have b:X/2^m=0:=by
   obtain⟨d,rfl⟩:∃d,m=j+d:=⟨m-j,ah⟩;rw[lD,<-xN,h,Nat.zero_div]
  simp only[iL];rw[a,b,Nat.zero_mod,Kv]
theorem OM(X k:Nat):iL X k<=k:=by
 induction k with
 |zero=>exact ax _
 |succ k ih=>simp only[iL];omega
theorem XO(X j:Nat):X/2^j/2=X/2^(j+1):=by rw[xN,uy]
def iC(x:Int):Nat:=iL x.toNat 63
theorem XP{x:Int}(h:x<=9223372036854775807):x.toNat/2^63=0:=zf ah
def nT(ps:Lz):Int:=((iC (ps.getD 0 0)+iC (ps.getD 9 0)+iC (ps.getD 17 0))%2:Nat)
def iD(a b c:Int)(k:Nat):Nat:=(if 0<k then iC a else 0)+(if 1<k then iC b else 0)+(if 2<k then iC c else 0)
theorem XQ(x:Int):iC x<=63:=OM _ _
theorem XR(a b:Nat):bits BinOp.xor IntKind.i64 ((a:Int)%2) ((b:Int)%2)=((a+b:Nat):Int)%2:=by
 have d:(a:Int)%2=0\/(a:Int)%2=1:=ah;have f:(b:Int)%2=0\/(b:Int)%2=1:=ah;have e:((a+b:Nat):Int)%2=((a:Int)%2+(b:Int)%2)%2:=ah;rw[e];rcases d with h|h<;>rcases f with c|c<;>rw[h,c]<;>rfl
theorem adD(ps:Lz)(w:Wd)(J:ps.length=25)(x:W64 ps):
 Cl 85 #[.agg (agi ps)] w fun e w'=>e=.returned (.int .i64 (nT ps))/\Bw w w':=by
 have P0:=IB.new w 81 ps;have B:=af (baqq w (.cells (agi ps) 81));have E:=IB.cell P0 0 ah;have F:=IB.cell P0 9 ah;have c2:=IB.cell P0 17 ah;have q:=x.at_ 0;have H:=x.at_ 9;have L:=x.at_ 17;have v:=aj (nT ps=((iC (ps.getD 0 0)+iC (ps.getD 9 0)+iC (ps.getD 17 0))%2:Nat)) (rfl);obtain⟨a,r⟩:=ak (ps.getD 0 0);obtain⟨b,G⟩:=ak (ps.getD 9 0);obtain⟨c,t⟩:=ak (ps.getD 17 0);rw[<-r] at E q v;rw[<-G] at F H v;rw[<-t] at c2 L v;obtain⟨V,z⟩:=ak (w.alloc (.cells (agi ps) 81));rw[<-z] at E F c2 B;have D:=af z;have q:=af q;have H:=af H;have L:=af L;clear r G t z x J P0;go_enter Tryz.func85,Tryz.ntmps85;go_wp2_with(rw[<-D.o];clear D);go_loop [3,17] (fun p A=> ∃k:Nat,k<=3/\A=.int .i64 k/\p=.int .i64 ((iD a b c k:Nat)%2:Int)) (fun _ A=>3-(intOf A).toNat)
 case atStart=>exact⟨0,ah,rfl,rfl⟩
 case round=>
  obtain⟨k,O,rfl,rfl⟩:=hrel;by_cases K:k<3
  ·obtain rfl|rfl|rfl:k=0\/k=1\/k=2:=ah
   ·have C:=aj (iD a b c (0+1)=iD a b c 0+iC a) (Gw)
    have u:∀w',(Instr.index 169 (.agg #[.int .i64 a,.int .i64 b,.int .i64 c]) (.int .i64 0)).run Tryz.prog w'=.ok (.int .i64 a) w':=fun _=>aB;obtain⟨g,d⟩:=ak (iD a b c 0);rw[<-d] at C|-;clear d;try rw[show((0:Nat):Int)=0 from rfl]
    have i:decide ((0:Int)<3)=true:=rfl;go_wp2;go_loop [3,5] (fun p h=> ∃(j N:Nat) (y:Int),j<=63/\y<=9223372036854775807/\h=.int .i64 y/\p=.int .i64 ((N:Int)%2)/\Hy (N=g+iL a.toNat j)/\Hy (y.toNat=a.toNat/2^j)) (fun _ h=>(intOf h).toNat)
    case atStart=>exact⟨0,g,a,ah,q.o.2,rfl,rfl,af rfl,af ay⟩
    case round=>
     obtain⟨j,N,y,hj,I,rfl,rfl,HN,HY⟩:=hrel;by_cases m:0<y
     ·have l:j<63:=by
       refine zl fun t=>?_;obtain rfl:j=63:=ah;have:=HY.o;rw[XP q.o.2] at this;omega
      have r:=Dx y;have n:=XR N y.toNat;rw[show((y.toNat:Nat):Int)%2=y%2 from ah] at n;obtain⟨M,f⟩:=ak (N+y.toNat);rw[<-f] at n;have HE:=aj (iL a.toNat (j+1)=iL a.toNat j+a.toNat/2^j%2) (rfl);have s:=af (XO a.toNat j);have HM:=af f;clear f;go_wp2;refine⟨⟨j+1,iL a.toNat (j+1)+g,y/2,ah,ah,rfl,?_,af (qI _ _),af ?_⟩,?_⟩
      ·exact abA
      ·rw[<-s.o,<-HY.o];omega
      simp[intOf]<;>omega
     have hz:a.toNat/2^j=0:=(by have:=HY.o;omega);have HE:=aj (N=iD a b c (0+1)) (aaK);clear hz;go_wp2;refine⟨⟨0+1,ah,rfl,by rw[HE.o]⟩,?_⟩;simp[intOf]
   ·have C:=aj (iD a b c (1+1)=iD a b c 1+iC b) (Gw)
    have u:∀w',(Instr.index 169 (.agg #[.int .i64 a,.int .i64 b,.int .i64 c]) (.int .i64 1)).run Tryz.prog w'=.ok (.int .i64 b) w':=fun _=>aB;obtain⟨g,d⟩:=ak (iD a b c 1);rw[<-d] at C|-;clear d;try rw[show((1:Nat):Int)=1 from rfl]
    have i:decide ((1:Int)<3)=true:=rfl;go_wp2;go_loop [3,5] (fun p h=> ∃(j N:Nat) (y:Int),j<=63/\y<=9223372036854775807/\h=.int .i64 y/\p=.int .i64 ((N:Int)%2)/\Hy (N=g+iL b.toNat j)/\Hy (y.toNat=b.toNat/2^j)) (fun _ h=>(intOf h).toNat)
    case atStart=>exact⟨0,g,b,ah,H.o.2,rfl,rfl,af rfl,af ay⟩
    case round=>
     obtain⟨j,N,y,hj,I,rfl,rfl,HN,HY⟩:=hrel;by_cases m:0<y
     ·have l:j<63:=by
       refine zl fun t=>?_;obtain rfl:j=63:=ah;have:=HY.o;rw[XP H.o.2] at this;omega
      have r:=Dx y;have n:=XR N y.toNat;rw[show((y.toNat:Nat):Int)%2=y%2 from ah] at n;obtain⟨M,f⟩:=ak (N+y.toNat);rw[<-f] at n;have HE:=aj (iL b.toNat (j+1)=iL b.toNat j+b.toNat/2^j%2) (rfl);have s:=af (XO b.toNat j);have HM:=af f;clear f;go_wp2;refine⟨⟨j+1,iL b.toNat (j+1)+g,y/2,ah,ah,rfl,?_,af (qI _ _),af ?_⟩,?_⟩
      ·exact abA
      ·rw[<-s.o,<-HY.o];omega
      simp[intOf]<;>omega
     have hz:b.toNat/2^j=0:=(by have:=HY.o;omega);have HE:=aj (N=iD a b c (1+1)) (aaK);clear hz;go_wp2;refine⟨⟨1+1,ah,rfl,by rw[HE.o]⟩,?_⟩;simp[intOf]
   have C:=aj (iD a b c (2+1)=iD a b c 2+iC c) (Gw);have u:∀w',(Instr.index 169 (.agg #[.int .i64 a,.int .i64 b,.int .i64 c]) (.int .i64 2)).run Tryz.prog w'=.ok (.int .i64 c) w':=fun _=>aB;obtain⟨g,d⟩:=ak (iD a b c 2);rw[<-d] at C|-;clear d;try rw[show((2:Nat):Int)=2 from rfl]
   have i:decide ((2:Int)<3)=true:=rfl;go_wp2;go_loop [3,5] (fun p h=> ∃(j N:Nat) (y:Int),j<=63/\y<=9223372036854775807/\h=.int .i64 y/\p=.int .i64 ((N:Int)%2)/\Hy (N=g+iL c.toNat j)/\Hy (y.toNat=c.toNat/2^j)) (fun _ h=>(intOf h).toNat)
   case atStart=>exact⟨0,g,c,ah,L.o.2,rfl,rfl,af rfl,af ay⟩
   case round=>
    obtain⟨j,N,y,hj,I,rfl,rfl,HN,HY⟩:=hrel;by_cases m:0<y
    ·have l:j<63:=by
      refine zl fun t=>?_;obtain rfl:j=63:=ah;have:=HY.o;rw[XP L.o.2] at this;omega
     have r:=Dx y;have n:=XR N y.toNat;rw[show((y.toNat:Nat):Int)%2=y%2 from ah] at n;obtain⟨M,f⟩:=ak (N+y.toNat);rw[<-f] at n;have HE:=aj (iL c.toNat (j+1)=iL c.toNat j+c.toNat/2^j%2) (rfl);have s:=af (XO c.toNat j);have HM:=af f;clear f;go_wp2;refine⟨⟨j+1,iL c.toNat (j+1)+g,y/2,ah,ah,rfl,?_,af (qI _ _),af ?_⟩,?_⟩
     ·exact abA
     ·rw[<-s.o,<-HY.o];omega
     simp[intOf]<;>omega
    have hz:c.toNat/2^j=0:=(by have:=HY.o;omega);have HE:=aj (N=iD a b c (2+1)) (aaK);clear hz;go_wp2;refine⟨⟨2+1,ah,rfl,by rw[HE.o]⟩,?_⟩;simp[intOf]
  obtain rfl:k=3:=ah;go_wp2;go_ret;exact⟨by rw[v.o];rfl,B.o⟩
theorem adE(ps:Lz)(w:Wd)(hl:ps.length=25)(I:W64 ps):
 Cl 129 #[.agg (agi ps)] w fun e w'=>e=.returned (.int .i64 (nT ps))/\Bw w w':=by
 have P0:=IB.new w 81 ps;have s:=(baqq w (.cells (agi ps) 81));have M:=IB.cell P0 0 ah;have O:=IB.cell P0 9 ah;have c2:=IB.cell P0 17 ah;have D:=I.at_ 0;have H:=I.at_ 9;have L:=I.at_ 17;have E:=aj (nT ps=((iC (ps.getD 0 0)+iC (ps.getD 9 0)+iC (ps.getD 17 0))%2:Nat)) (rfl);obtain⟨a,S⟩:=ak (ps.getD 0 0);obtain⟨b,U⟩:=ak (ps.getD 9 0);obtain⟨c,hc⟩:=ak (ps.getD 17 0);rw[<-S] at M D E;rw[<-U] at O H E;rw[<-hc] at c2 L E;obtain⟨V,hV⟩:=ak (w.alloc (.cells (agi ps) 81));have Z:V.heap.size=w.heap.size+1:=Gt;rw[<-hV] at M O c2 s;have s:=af (s.alloc ah (.cells #[.int .i64 a,.int .i64 b,.int .i64 c] 3));have R:=af hV;have D:=af D;have H:=af H;have L:=af L;have F:=af (Blk.new V 3 #[.int .i64 a,.int .i64 b,.int .i64 c]);clear S U hc hV I hl P0 Z;go_enter Tryz.func129,Tryz.ntmps129;go_wp2_with(rw[<-R.o];clear R);obtain⟨g,G⟩:=ak (V.heap.size);obtain⟨K,p⟩:=ak (V.alloc (.cells #[.int .i64 a,.int .i64 b,.int .i64 c] 3));rw[<-G,<-p] at F|-;rw[<-p] at s;have k0:K.cell? ⟨g,0,none⟩=some (.int .i64 a):=Blk.cell F.o 0;have k1:K.cell? ⟨g,1,none⟩=some (.int .i64 b):=Blk.cell F.o 1;have k2:K.cell? ⟨g,2,none⟩=some (.int .i64 c):=Blk.cell F.o 2;clear G p M O c2;go_loop [3,19] (fun r Q=> ∃k:Nat,k<=3/\Q=.int .i64 k/\r=.int .i64 (iD a b c k:Nat)) (fun _ Q=>3-(intOf Q).toNat)
 case atStart=>exact⟨0,ah,rfl,rfl⟩
 case round=>
  obtain⟨k,hk,rfl,rfl⟩:=hrel;by_cases hlt:k<3
  ·obtain rfl|rfl|rfl:k=0\/k=1\/k=2:=ah
   ·have C:=aj (iD a b c (0+1)=iD a b c 0+iC a) (Gw)
    obtain⟨i,d⟩:=ak (iD a b c 0);have y:i<=189:=aaE;rw[<-d] at C|-;clear d;try rw[show((0:Nat):Int)=0 from rfl]
    have l:decide ((0:Int)<3)=true:=rfl;go_wp2;go_loop [3,6] (fun r f=> ∃(j N:Nat),j<=63/\f=.int .u64 j/\r=.int .i64 (N:Nat)/\Hy (N=i+iL a.toNat j)/\Hy (0<j->0<a)) (fun _ f=>63-(intOf f).toNat)
    case atStart=>exact⟨0,i,ah,rfl,rfl,af rfl,af (fun h=>ah)⟩
    case round=>
     obtain⟨j,N,x,rfl,rfl,HN,HJ⟩:=hrel;have A:=D.o;by_cases hpos:0<a
     ·have t:decide (0<a)=true:=Gm
      by_cases n:j<63
      ·have u:decide ((j:Int)<63)=true:=aC
       have Y:(0:Int)<=j:=ah;have B:(j:Int)<64:=ah;have T:iL a.toNat j<=63:=dL (OM _ _) x;have W:N<=300:=kK;obtain⟨q,hq⟩:=ak (a.toNat/2^j:Nat);have z:a/2^j=(q:Nat):=by
        rw[hq];obtain⟨X,v⟩:∃X:Nat,a=X:=⟨a.toNat,ah⟩;rw[v];simp
       have HE:=aj (iL a.toNat (j+1)=iL a.toNat j+q%2) (by rw[hq];rfl);exact abp
      obtain rfl:j=63:=ah;have u:decide (((63:Nat):Int)<63)=false:=rfl;have J:N=iD a b c (0+1):=(by rw[HN.o,C.o];rfl);try rw[show((63:Nat):Int)=63 from rfl]
      go_wp2;refine⟨⟨0+1,ah,rfl,by rw[J]⟩,?_⟩;simp[intOf]
     obtain rfl:j=0:=by
      exact abC
     have t:decide (0<a)=false:=Gm;have J:N=iD a b c (0+1):=by
      rw[HN.o,C.o];unfold iC;rw[OJ a.toNat (j:=0) (m:=63) (by rw[show a.toNat=0 from ah]) ah]
     go_wp2;refine⟨⟨0+1,ah,rfl,by rw[J]⟩,?_⟩;simp[intOf]
   ·have C:=aj (iD a b c (1+1)=iD a b c 1+iC b) (Gw)
    obtain⟨i,d⟩:=ak (iD a b c 1);have y:i<=189:=aaE;rw[<-d] at C|-;clear d;try rw[show((1:Nat):Int)=1 from rfl]
    have l:decide ((1:Int)<3)=true:=rfl;go_wp2;go_loop [3,6] (fun r f=> ∃(j N:Nat),j<=63/\f=.int .u64 j/\r=.int .i64 (N:Nat)/\Hy (N=i+iL b.toNat j)/\Hy (0<j->0<b)) (fun _ f=>63-(intOf f).toNat)
    case atStart=>exact⟨0,i,ah,rfl,rfl,af rfl,af (fun h=>ah)⟩
    case round=>
     obtain⟨j,N,x,rfl,rfl,HN,HJ⟩:=hrel;have A:=H.o;by_cases hpos:0<b
     ·have t:decide (0<b)=true:=Gm
      by_cases n:j<63
      ·have u:decide ((j:Int)<63)=true:=aC
       have Y:(0:Int)<=j:=ah;have B:(j:Int)<64:=ah;have T:iL b.toNat j<=63:=dL (OM _ _) x;have W:N<=300:=kK;obtain⟨q,hq⟩:=ak (b.toNat/2^j:Nat);have z:b/2^j=(q:Nat):=by
        rw[hq];obtain⟨X,v⟩:∃X:Nat,b=X:=⟨b.toNat,ah⟩;rw[v];simp
       have HE:=aj (iL b.toNat (j+1)=iL b.toNat j+q%2) (by rw[hq];rfl);exact abp
      obtain rfl:j=63:=ah;have u:decide (((63:Nat):Int)<63)=false:=rfl;have J:N=iD a b c (1+1):=(by rw[HN.o,C.o];rfl);try rw[show((63:Nat):Int)=63 from rfl]
      go_wp2;refine⟨⟨1+1,ah,rfl,by rw[J]⟩,?_⟩;simp[intOf]
     obtain rfl:j=0:=by
      exact abC
     have t:decide (0<b)=false:=Gm;have J:N=iD a b c (1+1):=by
      rw[HN.o,C.o];unfold iC;rw[OJ b.toNat (j:=0) (m:=63) (by rw[show b.toNat=0 from ah]) ah]
     go_wp2;refine⟨⟨1+1,ah,rfl,by rw[J]⟩,?_⟩;simp[intOf]
   have C:=aj (iD a b c (2+1)=iD a b c 2+iC c) (Gw);obtain⟨i,d⟩:=ak (iD a b c 2);have y:i<=189:=aaE;rw[<-d] at C|-;clear d;try rw[show((2:Nat):Int)=2 from rfl]
   have l:decide ((2:Int)<3)=true:=rfl;go_wp2;go_loop [3,6] (fun r f=> ∃(j N:Nat),j<=63/\f=.int .u64 j/\r=.int .i64 (N:Nat)/\Hy (N=i+iL c.toNat j)/\Hy (0<j->0<c)) (fun _ f=>63-(intOf f).toNat)
   case atStart=>exact⟨0,i,ah,rfl,rfl,af rfl,af (fun h=>ah)⟩
   case round=>
    obtain⟨j,N,x,rfl,rfl,HN,HJ⟩:=hrel;have A:=L.o;by_cases hpos:0<c
    ·have t:decide (0<c)=true:=Gm
     by_cases n:j<63
     ·have u:decide ((j:Int)<63)=true:=aC
      have Y:(0:Int)<=j:=ah;have B:(j:Int)<64:=ah;have T:iL c.toNat j<=63:=dL (OM _ _) x;have W:N<=300:=kK;obtain⟨q,hq⟩:=ak (c.toNat/2^j:Nat);have z:c/2^j=(q:Nat):=by
       rw[hq];obtain⟨X,v⟩:∃X:Nat,c=X:=⟨c.toNat,ah⟩;rw[v];simp
      have HE:=aj (iL c.toNat (j+1)=iL c.toNat j+q%2) (by rw[hq];rfl);exact abp
     obtain rfl:j=63:=ah;have u:decide (((63:Nat):Int)<63)=false:=rfl;have J:N=iD a b c (2+1):=(by rw[HN.o,C.o];rfl);try rw[show((63:Nat):Int)=63 from rfl]
     go_wp2;refine⟨⟨2+1,ah,rfl,by rw[J]⟩,?_⟩;simp[intOf]
    obtain rfl:j=0:=by
     exact abC
    have t:decide (0<c)=false:=Gm;have J:N=iD a b c (2+1):=by
     rw[HN.o,C.o];unfold iC;rw[OJ c.toNat (j:=0) (m:=63) (by rw[show c.toNat=0 from ah]) ah]
    go_wp2;refine⟨⟨2+1,ah,rfl,by rw[J]⟩,?_⟩;simp[intOf]
  obtain rfl:k=3:=ah;have P:iD a b c 3=iC a+iC b+iC c:=rfl;rw[P];generalize iC a+iC b+iC c=m at*
  go_wp2;go_ret;exact⟨by rw[E.o];rfl,s.o⟩
theorem qC(V:Nat):(jd V).length=14:=by simp[jd]
theorem Jd(V:Nat)(a:j<14):(jd V)[j]?=some (jG V (8*(13-j)):Int):=by
 unfold jd;simp[a]
theorem amq(V:Nat){u q P:Nat}(a:u<=1)(b:j<14)(d:q<8)(c:P=8*(13-j)+q):(jd V).set j ((jG V (8*(13-j))|||u<<<q:Nat):Int)=jd (V|||u<<<P):=by
 refine y8 fun i=>?_;by_cases hi:i<14
 ·rw[Ku,Jd _ hi,Jd _ hi,qC]
  by_cases e:j=i
  ·subst e
   rw[if_pos rfl,if_pos b,amd a ah ah,show P-8*(13-j)=q from ah]
  rw[if_neg e,ame a ah]
 rw[iy (by rw[fP,qC];omega),iy MS]
structure TwoP(g h:Nat)(w w':Wd):Prop where
 os:w'.os=w.os
 tape:w'.tape=w.tape
 output:w'.output=w.output
 size:w.heap.size<=w'.heap.size
 keep:∀k,k<w.heap.size->k≠g->k≠h->w'.heap[k]?=w.heap[k]?
section
variable {g h:Nat} {w w1 w2:Wd}
theorem TwoP.refl(g h:Nat)(w:Wd):TwoP g h w w:=⟨rfl,rfl,rfl,ax _,fun _ _ _ _=>rfl⟩
theorem TwoP.trans(a:TwoP g h w w1)(b:TwoP g h w1 w2):TwoP g h w w2:=
 ⟨b.os.trans a.os,b.tape.trans a.tape,b.output.trans a.output,dL a.size b.size,fun k c d e=>(b.keep k (je c a.size) d e).trans (a.keep k c d e)⟩
theorem TwoP.of_below(a:Bw w w1):TwoP g h w w1:=⟨a.os,a.tape,a.output,a.size,fun k b _ _=>a.block k b⟩
theorem TwoP.set1(a:TwoP g h w w1)(i:Nat)(v:Value):TwoP g h w (w1.setCell ⟨g,i,none⟩ v):=
 ⟨a.os,a.tape,a.output,by simpa[World.setCell] using a.size,fun k c b d=>(lV w1 _ v k b).trans (a.keep k c b d)⟩
theorem TwoP.set2(a:TwoP g h w w1)(i:Nat)(v:Value):TwoP g h w (w1.setCell ⟨h,i,none⟩ v):=
 ⟨a.os,a.tape,a.output,by simpa[World.setCell] using a.size,fun k c d b=>(lV w1 _ v k b).trans (a.keep k c d b)⟩
theorem TwoP.drew(a:TwoP g h w w1):TwoP g h w w1.drew:=a.trans (TwoP.of_below (bY _))
theorem TwoP.blk(a:TwoP g h w w1){t:TypeId}{b:Array Value}(c:Blk w k t b)(d:k≠g)(e:k≠h):Blk w1 k t b:=(a.keep k (Blk.lt c) d e).trans c
theorem TwoP.below{B:Nat}(a:TwoP g h w w1)(d:B<=w.heap.size)(b:B<=g)(c:B<=h):Below B w w1:=⟨a.os,a.tape,a.output,a.size,fun k e=>a.keep k ah ah ah⟩
end
def pkL(V:Nat):Lz:=jd V++[0]
structure Pst(gb gB gA V n:Nat)(W:Wd):Prop where
 R:Blk W gb 5 (bts (pkL V)).toArray
 B:Blk W gB 32 #[.slice (some ⟨gb,0,none⟩) 15 15]
 A:Blk W gA 3 #[.int .i64 (n:Nat)]
 l1:gb<gB
 l2:gB<gA
section
variable {gb gB gA V n:Nat} {W W':Wd}
theorem Pst.below(s:Pst gb gB gA V n W)(a:Bw W W'):Pst gb gB gA V n W':=⟨Blk.below' s.R a,Blk.below' s.B a,Blk.below' s.A a,s.l1,s.l2⟩
theorem Pst.drew(s:Pst gb gB gA V n W):Pst gb gB gA V n W.drew:=⟨s.R,s.B,s.A,s.l1,s.l2⟩
theorem Pst.cell(s:Pst gb gB gA V n W)(a:j<14):W.cell? ⟨gb,j,none⟩=some (.int .u8 (jG V (8*(13-j)):Nat)):=by
 rw[Blk.cell s.R j];simp only[bts,pkL,o6,qg];rw[oD (by rw[qC];exact a),Jd V a];rfl
theorem Pst.put(s:Pst gb gB gA V n W){u j q P:Nat}(k:u<=1)(b:j<14)(i:q<8)(f:P=8*(13-j)+q)(m:Nat):
 Pst gb gB gA (V|||u<<<P) m ((W.setCell ⟨gb,j,none⟩ (.int .u8 ((jG V (8*(13-j))|||u<<<q:Nat):Int))).setCell ⟨gA,0,none⟩ (.int .i64 (m:Nat))):=by
 have c:=s.l1;have d:=s.l2;refine⟨?_,?_,?_,c,d⟩
 ·have a:=(Blk.set_ s.R j (.int .u8 ((jG V (8*(13-j))|||u<<<q:Nat):Int))).far (p:=⟨gA,0,none⟩) (by show gb≠gA;omega) (.int .i64 (m:Nat))
  have e:(bts (pkL V)).toArray.setIfInBounds j (.int .u8 ((jG V (8*(13-j))|||u<<<q:Nat):Int))=(bts (pkL (V|||u<<<P))).toArray:=by
   unfold pkL;rw[<-amq V k b i f,bg];unfold bts;rw[<-ET,List.set_append_left _ _ (by rw[qC];exact b)]
  rw[e] at a;exact a
 ·exact(Blk.far s.B (p:=⟨gb,j,none⟩) (by show gB≠gb;omega) _).far (p:=⟨gA,0,none⟩) (by show gB≠gA;omega) _
 ·have a:=Blk.set_ (Blk.far s.A (p:=⟨gb,j,none⟩) (by show gA≠gb;omega) (.int .u8 ((jG V (8*(13-j))|||u<<<q:Nat):Int))) 0 (.int .i64 (m:Nat))
  exact a
end
theorem adI(gb gB gA V a v n:Nat)(w:Wd)(S:Pst gb gB gA V a w)(hn:n<=62)(hv:v<2^n)(ha:a+n<=112):
 Cl 83 #[.int .i64 v,.int .i64 n,.pointer (some ⟨gB,0,none⟩),.pointer (some ⟨gA,0,none⟩)] w
  (fun e w'=>e=.returned (.tuple #[])/\Pst gb gB gA (V|||v<<<(112-a-n)) (a+n) w'/\TwoP gb gA w w'):=by
 have S0:=aj (Pst gb gB gA (V|||(v>>>n)<<<(112-a)) a w) (by
  rw[Td,zf hv,Nat.zero_shiftLeft,Nat.or_zero];exact S)
 have hn1:IntKind.i64.wrap ((n:Int)-1)=(n:Int)-1:=aV;clear S;go_enter Tryz.func83,Tryz.ntmps83;go_wp2;go_loopw[6] (fun iv wr=> ∃m k:Nat,m+k=n/\iv=.int .i64 ((k:Int)-1)/\Hy (Pst gb gB gA (V|||(v>>>k)<<<(112-a-m)) (a+m) wr)/\Hy (TwoP gb gA w wr)) (fun iv _=>(intOf iv+1).toNat)
 case atStart=>exact⟨0,n,ah,rfl,S0,af (TwoP.refl _ _ _)⟩
 case round=>
  clear S0;obtain⟨m,k,hmk,rfl,C,HT⟩:=hrel;by_cases hlt:0<k
  ·obtain⟨K,rfl⟩:∃K,k=K+1:=⟨k-1,ah⟩
   have d:((K+1:Nat):Int)-1=K:=ah;rw[d];clear d;obtain⟨A,T⟩:=ak (a+m);have U:A<112:=ah;obtain⟨j,hj⟩:=ak (A/8);obtain⟨q,hq⟩:=ak (7-A%8);obtain⟨P,hP⟩:=ak (112-a-(m+1));have c:j<14:=ah;have hq8:q<8:=ah;have x:P=8*(13-j)+q:=ah;have t:112-a-m=P+1:=ah;rw[t,<-T] at C;obtain⟨y,hy⟩:=ak (v>>>K);obtain⟨u,hu⟩:=ak (y%2);have F:u<=1:=ah;have HV:=aj ((V|||(v>>>(K+1))<<<(P+1))|||(u<<<P)=V|||(v>>>K)<<<P) (by rw[hu,hy];exact amf V v K P);obtain⟨X,hX⟩:=ak (V|||(v>>>(K+1))<<<(P+1));rw[<-hX] at C HV;have cb:=C.o.cell c;have fb:=Blk.frozen C.o.R j;have cB:wr.cell? ⟨gB,0,none⟩=some (.slice (some ⟨gb,0,none⟩) 15 15):=Blk.cell C.o.B 0;have cA:wr.cell? ⟨gA,0,none⟩=some (.int .i64 (A:Nat)):=Blk.cell C.o.A 0;have l1:=C.o.l1;have l2:=C.o.l2;have Q:=af (fun(W:Wd) (h:Pst gb gB gA X A W)=>Pst.put h F c hq8 x (A+1));obtain⟨s,i⟩:=ak (jG X (8*(13-j)));have l:s<256:=(by rw[i];exact XI _ _);rw[<-i] at cb Q;obtain⟨z,L⟩:=ak (u<<<q);have r:z<256:=by
    rw[L,Fg];have h1:u*2^q<=1*2^q:=xJ _ F;have h2:2^q<=2^7:=jK aA ah;omega
   rw[<-L] at Q;have D:(u:Int)*2^q=(z:Nat):=(by rw[L,Fg];simp);have hor:=amg s z l r;have hyd:(v:Int)/2^K=(y:Nat):=(by rw[hy,Td];simp);have b:=Dx (y:Nat);have G:((y:Nat):Int)%2=(u:Nat):=ah;rw[G] at b;have hdj:(A:Int)/8=(j:Nat):=ah;have hdr:IntKind.i64.wrap (7-(A:Int)%8)=(q:Nat):=aV;have hu8:IntKind.u8.wrap ((u:Nat):Int)=(u:Nat):=Ux;have hz8:IntKind.u8.wrap ((z:Nat):Int)=(z:Nat):=Ux;have hqu:IntKind.u64.wrap ((q:Nat):Int)=(q:Nat):=uN;have Y:IntKind.u64.wrap ((K:Nat):Int)=(K:Nat):=uN;have K0:(0:Int)<=K:=ah;have K64:(K:Int)<64:=ah;have q0:(0:Int)<=q:=ah;have q64:(q:Int)<64:=ah;have j0:(0:Int)<=j:=ah;have j15:(j:Int)<15:=ah;have hA1:IntKind.i64.wrap ((A:Int)+1)=(A:Int)+1:=aV;have M:=af T;have O:=af hP;clear T hj hq hP x t hy hu hX i L;have hne1: ¬gb=gA:=ah;have E: ¬gA=gb:=ah;have hne3: ¬gB=gb:=ah;go_wp2;go_region;obtain⟨N,f⟩:=ak ((wr.setCell ⟨gb,j,none⟩ (.int .u8 ((s|||z:Nat):Int))).drew);have Z:N=wr.drew.setCell ⟨gb,j,none⟩ (.int .u8 ((s|||z:Nat):Int)):=f;have H:=Blk.far (Blk.drew C.o.A) (p:=⟨gb,j,none⟩) E (.int .u8 ((s|||z:Nat):Int));have I:=Q.o _ C.o.drew;have J:=((HT.o.drew).set1 j (.int .u8 ((s|||z:Nat):Int))).set2 0 (.int .i64 ((A+1:Nat):Int));rw[<-Z] at H I J;rw[<-f];have cA2:N.cell? ⟨gA,0,none⟩=some (.int .i64 (A:Nat)):=Blk.cell H 0;have fA2:N.frozen? ⟨gA,0,none⟩=false:=Blk.frozen H 0;have I:=af I;have J:=af J;clear cb fb cB cA hor hyd b G hdj hdr hu8 hz8 hqu Y f Z H;go_wp2;go_roundw;case rel=>exact⟨m+1,K,ah,by congr 1,af (by rw[<-O.o,<-HV.o,show a+(m+1)=A+1 by have:=M.o;omega];exact I.o),af J.o⟩
   case measure=>exact aW
  obtain rfl:k=0:=ah;obtain rfl:m=n:=ah;go_wp2;go_end0
  exact⟨rfl,by have:=C.o;rwa [Nat.shiftRight_zero] at this,HT.o⟩
