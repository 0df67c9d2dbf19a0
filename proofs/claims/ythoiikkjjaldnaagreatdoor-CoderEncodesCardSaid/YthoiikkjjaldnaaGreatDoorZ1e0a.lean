/- Texts that the law rests on. -/
import Derived.Test.YthoiikkjjaldnaaGreatDoorZ1e04
import Derived.Test.YthoiikkjjaldnaaGreatDoorZ1e06
import Derived.Test.YthoiikkjjaldnaaGreatDoorZ1e07
namespace Go.Proofs.YthoiikkjjaldnaaGreatDoor
set_option linter.unusedVariables false
set_option linter.unusedSimpArgs false
set_option maxRecDepth 100000
set_option maxHeartbeats 8000000
open Go.RowKit
def kw(k:Nat):Int:=iy.getD k 0
def Gx(f:Int)(k:Nat):Bool:=decide (f/2^(14-k)%2=1)
def iU(f:Int):Nat->Int
 |0=>1073741824
 |k+1=>if Gx f k then iU f k+iU f k*kw k/1073741824 else iU f k
def uC:Nat->Int
 |0=>1073741824
 |k+1=>uC k+uC k*kw k/1073741824
def oW(n f:Int):Bool:=decide ((0<=n/\n<=30)/\0<=f/\f<=32767)
def jS(n f:Int):Int:=if oW n f then(if 2147483647<=iU f 15/2^(30-n).toNat then 2147483647 else iU f 15/2^(30-n).toNat) else 0
theorem Dh(k:Nat):0<=kw k:=by
 unfold kw
 by_cases h:k<15
 ·have:∀j,j<15->0<=iy.getD j 0:=aB
  exact this k h
 exact acG
theorem Xd(k:Nat):kw k<=444758425:=by
 unfold kw
 by_cases h:k<15
 ·have:∀j,j<15->iy.getD j 0<=444758425:=aB
  exact this k h
 exact acG
theorem aeX:∀k,k<16->uC k<=2147483648:=aB
theorem Dl(f:Int)(k:Nat):1073741824<=iU f k:=by
 induction k with
 |zero=>simp[iU]
 |succ k ih=>
  unfold iU
  split
  ·have h1:0<=iU f k*kw k:=Int.mul_nonneg ah (Dh k)
   have h2:0<=iU f k*kw k/1073741824:=Int.ediv_nonneg h1 ah
   omega
  exact ih
theorem aeY(f:Int)(k:Nat):iU f k<=uC k:=by
 induction k with
 |zero=>simp[iU,uC]
 |succ k ih=>
  have h0:=Dl f k
  have h1:iU f k*kw k<=uC k*kw k:=Int.mul_le_mul_of_nonneg_right ih (Dh k)
  have h2:iU f k*kw k/1073741824<=uC k*kw k/1073741824:=Int.ediv_le_ediv ah h1
  have h3:0<=uC k*kw k/1073741824:=Int.ediv_nonneg (Int.mul_nonneg ah (Dh k)) ah
  unfold iU uC
  split<;>omega
theorem aeZ(f:Int){k:Nat}(h:k<16):iU f k<=2147483648:=Int.le_trans (aeY f k) (aeX k h)
theorem Xe{x r:Int}(h1:1073741824<=x)(h2:x<=2147483648)(h3:0<=r)(h4:r<=444758425):0<=x*r/\x*r<=955124478797414400/\0<=x*r/1073741824/\x*r/1073741824<=889516850:=by
 have h5:x*r<=2147483648*444758425:=Int.mul_le_mul h2 h4 h3 ah
 have h6:0<=x*r:=Int.mul_nonneg ah h3
 omega
theorem Xf{a b c:Int}(h:a=b):Ending.returned (.tuple #[.int .i64 a,.int .i64 c])=.returned (.tuple #[.int .i64 b,.int .i64 c]):=by rw[h]
theorem ae0(n f:Int)(w:World)(T:TabA w 4 iy)(n1:0<=n)(n2:n<=30)(f1:0<=f)(f2:f<=32767):
 Calls Tryz.prog 168 #[.int .i64 n,.int .i64 f] w fun e w'=>e=.returned (.tuple #[.int .i64 (jS n f),.int .i64 0])/\w=w':=by
 have d1: ¬n<0:=ah
 have d2: ¬30<n:=ah
 have d3: ¬f<0:=ah
 have d4: ¬32767<f:=ah
 have size15:(Tryz.prog.info? 204).map (·.size)=some 15:=au
 have HIX:=hid (fun(k:Nat) (hk:k<15) (w:World)=>jp Tryz.underlying204 iy rfl k hk w)
 have TT:=hid T
 have S15:=hid size15
 clear T size15
 go_enter Tryz.func168,Tryz.ntmps168
 go_wp2_with(refine acO rfl 204 (.global 4) rfl _ iy 15 _ rfl TT.out Tryz.underlying204 rfl S15.out rfl ?_)
 go_loop [6,24] (fun xv iv=> ∃(k:Nat) (x:Int),k<=15/\iv=.int .i64 k/\xv=.int .i64 x/\Hid (x=iU f k)) (fun _ iv=>15-(intOf iv).toNat)
 case atStart=>exact⟨0,1073741824,ah,rfl,rfl,hid rfl⟩
 case round=>
  obtain⟨k,x,hk,rfl,rfl,HX⟩:=hrel
  by_cases hlt:k<15
  ·have hix:=HIX.out k hlt
   have x1:1073741824<=x:=by rw[HX.out];exact Dl f k
   have x2:x<=2147483648:=Oy
   have r1:=Dh k
   have r2:=Xd k
   have HR:=hid (show iU f (k+1)=if Gx f k then x+x*kw k/1073741824 else x by rw[iU,<-HX.out])
   unfold kw at r1 r2 HR
   generalize iy.getD k 0=r at*
   obtain⟨q1,q2,q3,q4⟩:=Xe x1 x2 r1 r2
   have HA:=zG (f/2^(14-k))
   by_cases hb:f/2^(14-k)%2=1
   ·have e1:(bits BinOp.and IntKind.i64 (f/2^(14-k)) 1==1)=true:=by rw[HA,hb];rfl
    have HR2:=hid (show iU f (k+1)=x+x*r/1073741824 by rw[HR.out,if_pos MF])
    exact abZ
   have e1:(bits BinOp.and IntKind.i64 (f/2^(14-k)) 1==1)=false:=by rw[HA];simpa using hb
   have HR2:=hid (show iU f (k+1)=x by rw[HR.out,if_neg MF])
   exact abZ
  obtain rfl:k=15:=ah
  obtain⟨m,rfl⟩:=dP n1
  have x1:1073741824<=x:=by rw[HX.out];exact Dl f 15
  have x2:x<=2147483648:=Oy
  have HV:=hid (show jS (m:Nat) f=(if 2147483647<=x/2^(30-m) then 2147483647 else x/2^(30-m)) by
   unfold jS
   rw[if_pos (by unfold oW;simp;omega),<-HX.out,show((30:Int)-(m:Nat)).toNat=30-m from ah])
  clear HX hlt
  obtain⟨p,hp⟩:∃p,p=x/2^(30-m):=⟨_,rfl⟩
  rw[<-hp] at HV
  by_cases hc:2147483647<=p
  ·have HV2:=hid (show jS (m:Nat) f=2147483647 by rw[HV.out,if_pos hc])
   have g1:2147483647<=x/2^(30-m):=by rw[<-hp];exact hc
   exact ab8
  have HV2:=hid (show jS (m:Nat) f=x/2^(30-m) by rw[HV.out,if_neg hc,hp])
  have g1:x/2^(30-m)<2147483647:=ah
  exact ab8
theorem ae1(n f:Int)(w:World)(T:TabA w 4 iy):
 Calls Tryz.prog 168 #[.int .i64 n,.int .i64 f] w fun e w'=>e=.returned (.tuple #[.int .i64 (jS n f),.int .i64 (aZ (oW n f))])/\w=w':=by
 by_cases h:(0<=n/\n<=30)/\0<=f/\f<=32767
 ·have hb:oW n f=true:=MQ
  rw[hb]
  exact ae0 n f w T h.1.1 h.1.2 h.2.1 h.2.2
 ·have hb:oW n f=false:=MQ
  have hv:jS n f=0:=by unfold jS;rw[hb];rfl
  rw[hb,hv]
  clear hb hv T
  by_cases h1:n<0
  ·exact l85
  by_cases h2:30<n
  ·exact l85
  by_cases h3:f<0
  ·exact l85
  have h4:32767<f:=ah
  exact l85
def glB(n:Int):Bool:=decide (0<=n/\n<=31)
def glV(n:Int):Int:=if glB n then jS ((24+3*n)/8) ((24+3*n)%8*4096) else 0
theorem Xg{n:Int}(h1:0<=n)(h2:n<=31):oW ((24+3*n)/8) ((24+3*n)%8*4096)=true:=by
 unfold oW
 simp
 omega
theorem Gy{n:Int}(h1:0<=n)(h2:n<=31):glB n=true:=by unfold glB;simp;omega
theorem Dn{n:Int}(h:n<0\/31<n):glB n=false:=by unfold glB;simp;omega
theorem Dp(n:Int):0<=glV n/\glV n<=32767:=by
 by_cases h:0<=n/\n<=31
 ·obtain⟨k,rfl⟩:=dP h.1
  have:∀k:Nat,k<32->0<=glV (k:Nat)/\glV (k:Nat)<=32767:=uy
  exact this k ah
 unfold glV
 rw[Dn ah]
 simp
theorem Xh(n:Int)(w:World)(T:TabA w 4 iy):
 Calls Tryz.prog 105 #[.int .i64 n] w fun e w'=>e=.returned (.tuple #[.int .i64 (glV n),.int .i64 (aZ (glB n))])/\w=w':=by
 by_cases h:n<0\/31<n
 ·rw[show glV n=0 by unfold glV;rw[Dn h];rfl,Dn h]
  clear T
  rcases h with h|h
  ·go_enter Tryz.func105,Tryz.ntmps105
   go_wp2
   go_ret2
   exact⟨rfl,rfl⟩
  have h2: ¬n<0:=ah
  go_enter Tryz.func105,Tryz.ntmps105
  go_wp2
  go_ret2
  exact⟨rfl,rfl⟩
 ·have l1:0<=n:=ah
  have l2:n<=31:=ah
  have l3: ¬n<0:=ah
  have l4: ¬31<n:=ah
  have K:=ae1 (3+3*n/8) (3*n%8*4096) w T
  rw[show(3:Int)+3*n/8=(24+3*n)/8 from ah,show(3:Int)*n%8*4096=(24+3*n)%8*4096 from ah,Xg l1 l2] at K
  have hv:jS ((24+3*n)/8) ((24+3*n)%8*4096)=glV n:=by unfold glV;rw[Gy l1 l2];rfl
  rw[hv,show(24+3*n)/8=3+3*n/8 from ah,show(24+3*n)%8*4096=3*n%8*4096 from ah] at K
  rw[Gy l1 l2]
  have K:=hid K
  clear hv T h
  go_enter Tryz.func105,Tryz.ntmps105
  go_wp2_with(go_at_call 168;(with_reducible refine K.out.mono ?_);rintro e w' ⟨rfl,rfl⟩)
  go_ret2
  exact⟨rfl,rfl⟩
def tgB(t r:List Int):Bool:=aG t&&aG r
def jT(t r:List Int):Int:=if t.length=40/\r.length=40 then aZ (tgB t r) else 1
def tgT(t r:List Int)(n i:Nat):Int:=t.getD i 0*iF r n i
def tgE(t r:List Int)(n:Nat):Int:=aI (tgT t r n) 40
def tgL(t r:List Int):List Int:=if jT t r=0 then(List.range 40).map (tgE t r) else[]
theorem fQ{xs:List Int}(h:aG xs=true):eG xs:=fP h
theorem afa(t r:List Int)(n:Nat):bz t (jr r n) 40=tgE t r n:=
 lL 40 fun i hi=>by unfold qM jr tgT;rw[aT _ hi]
theorem Xn{t:List Int}(h:eG t)(r:List Int)(n k:Nat): -(1073741824*(k:Int))<=aI (tgT t r n) k/\aI (tgT t r n) k<=1073741824*(k:Int):=by
 induction k with
 |zero=>simp[aI]
 |succ k ih=>
  have hp:=kU (h k).1 (h k).2 (vV r n k).1 (vV r n k).2
  simp only[aI]
  unfold tgT at*
  push_cast
  omega
theorem Xo(t r:List Int)(n:Nat):∀k,k<=n->aI (tgT t r n) k=0
 |0,_=>rfl
 |k+1,h=>by
  simp only[aI]
  rw[Xo t r n k ah]
  unfold tgT iF
  rw[if_neg ah]
  simp
def tgN(t r:List Int)(n k:Nat):List Int:=(List.range 40).map (fun j=>if j<n then tgE t r j else if j=n then aI (tgT t r n) k else 0)
theorem o6(t r:List Int)(n k:Nat):(tgN t r n k).length=40:=by simp[tgN]
theorem Xp(t r:List Int){n k:Nat}(hn:n<40):(tgN t r n k).getD n 0=aI (tgT t r n) k:=by
 unfold tgN;rw[aT _ hn,if_neg ah,if_pos rfl]
theorem afb(t r:List Int){n k:Nat}(hn:n<40):(tgN t r n k).set n (aI (tgT t r n) (k+1))=tgN t r n (k+1):=by
 refine bV (by simp[o6]) fun j hj=>?_
 rw[List.length_set,o6] at hj
 by_cases e:n=j
 ·subst e;rw[gQ _ _ _ (by rw[o6];exact hj),Xp t r hn]
 rw[iw _ _ e]
 unfold tgN
 rw[aT _ hj,aT _ hj]
 by_cases h2:j<n
 ·rw[if_pos h2,if_pos h2]
 rw[if_neg h2,if_neg h2,if_neg ah,if_neg ah]
theorem afc(t r:List Int)(n:Nat):tgN t r n 40=tgN t r (n+1) (n+1):=by
 refine bV (by rw[o6,o6]) fun j hj=>?_
 rw[o6] at hj
 unfold tgN
 rw[aT _ hj,aT _ hj]
 by_cases h2:j<n
 ·rw[if_pos h2,if_pos ah]
 by_cases h3:j=n
 ·subst h3;rw[if_neg ah,if_pos rfl,if_pos ah];rfl
 rw[if_neg h2,if_neg h3,if_neg ah]
 by_cases h4:j=n+1
 ·rw[if_pos h4,Xo t r (n+1) (n+1) (al0z _)]
 rw[if_neg h4]
theorem afd(t r:List Int):tgN t r 0 0=List.replicate 40 0:=by
 refine bV (by rw[o6];simp) fun j hj=>?_
 rw[o6] at hj
 rw[zI]
 unfold tgN
 rw[aT _ hj,if_neg ah]
 split<;>rfl
theorem aff(t r:List Int):tgN t r 40 40=(List.range 40).map (tgE t r):=by
 refine bV (by rw[o6];simp) fun j hj=>?_
 rw[o6] at hj
 unfold tgN
 rw[aT _ hj,aT _ hj,if_pos hj]
theorem Xq{t r:List Int}(h: ¬(t.length=40/\r.length=40)):jT t r=1:=by unfold jT;rw[if_neg h]
theorem Qk{t r:List Int}(h1:t.length=40)(h2:r.length=40):jT t r=aZ (tgB t r):=by unfold jT;rw[if_pos ⟨h1,h2⟩]
theorem Gz{t r:List Int}(h:jT t r≠0):tgL t r=[]:=by unfold tgL;rw[if_neg h]
theorem GU{t r:List Int}(h:jT t r=0):tgL t r=(List.range 40).map (tgE t r):=by unfold tgL;rw[if_pos h]
theorem afg(A A2:Option Addr)(c c2:Nat)(t r:List Int)(w:World)(ht:Rs w w.heap.size A t)(hr:Rs w w.heap.size A2 r)(lt:t.length=40)(lr:r.length=40)(gt:aG t=true)(gr:aG r=true):
 Calls Tryz.prog 100 #[.slice A 40 c,.slice A2 40 c2] w (NewSE w ((List.range 40).map (tgE t r)) 0):=by
 have HT:=hid ht
 have HR:=hid hr
 have LT:=hid lt
 have LR:=hid lr
 have GT:=hid (fQ gt)
 have GR:=hid (fQ gr)
 clear ht hr lt lr gt gr
 go_enter Tryz.func100,Tryz.ntmps100
 go_wp2_with(at_make;refine kR rfl _ _ rfl .i64 .i64 40 rfl rfl w.heap.size ah (al0z _) ?_;intro w1 hO hG;have O1:=hid (show Own w1 w.heap.size (some ⟨w.heap.size,0,none⟩) 40 (tgN t r 0 0) by rw[afd];exact hO);have B1:=hid ((aA w.heap.size w).grown hG (al0z _) az);clear hO hG)
 go_loopw[20] (fun iv wr=> ∃n:Nat,n<=40/\iv=.int .i64 n/\Hid (Own wr w.heap.size (some ⟨w.heap.size,0,none⟩) 40 (tgN t r n n))/\Hid (Below w.heap.size w wr)) (fun iv _=>40-(intOf iv).toNat)
 case atStart=>exact⟨0,ah,rfl,O1,B1⟩
 case round=>
  clear O1 B1
  obtain⟨n,hn,rfl,HO,HB⟩:=hrel
  obtain⟨wo,rfl⟩:∃wo:World,wo=wr:=⟨_,rfl⟩
  by_cases hlt:n<40
  ·go_wp2
   go_loopw[8] (fun iv wr=> ∃k:Nat,n<=k/\k<=40/\iv=.int .i64 k/\Hid (Own wr w.heap.size (some ⟨w.heap.size,0,none⟩) 40 (tgN t r n k))/\Hid (Below w.heap.size w wr)) (fun iv _=>40-(intOf iv).toNat)
   case atStart=>exact⟨n,al0z _,hn,rfl,HO,HB⟩
   case round=>
    clear HO HB
    obtain⟨k,hnk,hk,rfl,HO,HB⟩:=hrel
    by_cases hlk:k<40
    ·obtain⟨ad,rfl,hadb,c0⟩:=(HT.out.below HB.out).at_ (k:=k) (by rw[LT.out];exact hlk)
     obtain⟨ae,rfl,haeb,c1⟩:=(HR.out.below HB.out).at_ (k:=k-n) (by rw[LR.out];omega)
     have co:=HO.out.cell n (by rw[o6];exact hlt)
     rw[Xp t r hlt] at co
     have fo:=HO.out.frozen n
     have sr:=Xn GT.out r n k
     have HSet:=hid (afb t r (n:=n) (k:=k) hlt)
     have ST:=hid (show aI (tgT t r n) (k+1)=aI (tgT t r n) k+t.getD k 0*r.getD (k-n) 0 by
      simp only[aI];unfold tgT iF;rw[if_pos hnk,kH (GR.out _).1 (GR.out _).2])
     have x16:=GT.out k
     have y16:=GR.out (k-n)
     generalize t.getD k 0=x at*
     generalize r.getD (k-n) 0=y at*
     obtain⟨m,hm⟩:∃m,m=k-n:=⟨_,rfl⟩
     rw[<-hm] at c1
     obtain⟨s,hs⟩:∃s,s=aI (tgT t r n) k:=⟨_,rfl⟩
     rw[<-hs] at co sr ST
     obtain⟨p1,p2⟩:=kU x16.1 x16.2 y16.1 y16.2
     have s1: -1073741824000<=s:=ah
     have s2:s<=1073741824000:=ah
     have hw0:IntKind.i64.wrap ((k:Int)-(n:Nat))=(m:Nat):=aN
     have hw2:IntKind.i64.wrap (x*y)=x*y:=aN
     have hw3:IntKind.i64.wrap (s+x*y)=s+x*y:=aN
     have KX:Hid (∀W,Calls Tryz.prog 163 #[.int .i64 x] W fun e w'=>e=.returned (.int .i64 x)/\w'=W):=hid (fun W=>(xU x W).mono fun _ _ h=>⟨by rw[h.1,kH x16.1 x16.2],h.2.symm⟩)
     have KY:Hid (∀W,Calls Tryz.prog 163 #[.int .i64 y] W fun e w'=>e=.returned (.int .i64 y)/\w'=W):=hid (fun W=>(xU y W).mono fun _ _ h=>⟨by rw[h.1,kH y16.1 y16.2],h.2.symm⟩)
     have i1:(m:Int)<40:=ah
     have i2:(0:Int)<=m:=ah
     have i3:(k:Int)<40:=ah
     have i4:(0:Int)<=k:=ah
     have i5:(n:Int)<40:=ah
     have i6:(0:Int)<=n:=ah
     have NO:=hid (fun N=>show Own ((wr.drewN N).setCell ⟨w.heap.size,n,none⟩ (.int .i64 (s+x*y))) w.heap.size (some ⟨w.heap.size,0,none⟩) 40 (tgN t r n (k+1)) from by rw[<-HSet.out,ST.out];exact(HO.out.drewN N).set_ n (by rw[o6];exact hlt) (s+x*y))
     have NB:=hid (fun N=>(HB.out.trans ((iJ wr N).mono HB.out.size)).setCell (p:=⟨w.heap.size,n,none⟩) (al0z _) (.int .i64 (s+x*y)))
     have HM:=hid hm
     have HSS:=hid hs
     have hadn:ad.block≠w.heap.size:=ah
     have haen:ae.block≠w.heap.size:=ah
     clear hm hs x16 y16 sr
     go_wp2
     go_quiet ((go_at_call 163;first|(with_reducible exact Calls.quiet_of_same (KX.out _))|(with_reducible exact Calls.quiet_of_same (KY.out _))))
     go_wp2
     go_region
     clear hw0 hw2 hw3
     go_wp2
     go_roundw
     case rel=>exact⟨k+1,ah,ah,aO,hid (NO.out _),hid (NB.out _)⟩
     case measure=>simp[intOf]<;>omega
    obtain rfl:k=40:=ah
    have NO:=hid (show Own wr w.heap.size (some ⟨w.heap.size,0,none⟩) 40 (tgN t r (n+1) (n+1)) by rw[<-afc];exact HO.out)
    go_wp2
    go_roundw
    case rel=>exact⟨n+1,ah,aO,NO,HB⟩
    case measure=>simp[intOf]<;>omega
  obtain rfl:n=40:=ah
  have NO:=hid (show Own wo w.heap.size (some ⟨w.heap.size,0,none⟩) 40 ((List.range 40).map (tgE t r)) by rw[<-aff];exact HO.out)
  go_wp2
  go_ret2
  exact⟨_,_,az,NO.out,HB.out⟩
def GV(w wr:World)(k:Nat):Prop:=∃xs:List Int,xs.length=40/\(-(1073741824*(k:Int))<=xs.getD 0 0/\xs.getD 0 0<=1073741824*(k:Int))/\Own wr w.heap.size (some ⟨w.heap.size,0,none⟩) 40 xs
theorem afh(A A2:Option Addr)(c c2:Nat)(t r:List Int)(w:World)(ht:Rs w w.heap.size A t)(hr:Rs w w.heap.size A2 r)(lt:t.length=40)(lr:r.length=40)(hb: ¬(aG t=true/\aG r=true))(wt:W64 t)(wr':W64 r):
 Calls Tryz.prog 100 #[.slice A 40 c,.slice A2 40 c2] w (NewSE w [] 2):=by
 have HT:=hid ht
 have HR:=hid hr
 have LT:=hid lt
 have LR:=hid lr
 have HB0:=hid hb
 have WT:=hid wt
 have WR:=hid wr'
 clear ht hr lt lr hb wt wr'
 go_enter Tryz.func100,Tryz.ntmps100
 go_wp2_with(at_make;refine kR rfl _ _ rfl .i64 .i64 40 rfl rfl w.heap.size ah (al0z _) ?_;intro w1 hO hG;have O1:=hid (show GV w w1 0 from⟨List.replicate 40 0,az,az,hO⟩);have B1:=hid ((aA w.heap.size w).grown hG (al0z _) az);clear hO hG)
 go_loopw[20] (fun iv wr=>iv=.int .i64 0/\Hid (GV w wr 0)/\Hid (Below w.heap.size w wr)) (fun _ _=>0)
 case atStart=>exact⟨rfl,O1,B1⟩
 case round=>
  clear O1 B1
  obtain⟨rfl,HO,HB⟩:=hrel
  obtain⟨wo,rfl⟩:∃wo:World,wo=wr:=⟨_,rfl⟩
  go_wp2
  go_loopw[8] (fun iv wr=> ∃k:Nat,k<=40/\iv=.int .i64 k/\Hid (allTo gV t k/\allTo gV r k)/\Hid (GV w wr k)/\Hid (Below w.heap.size w wr)) (fun iv _=>40-(intOf iv).toNat)
  case atStart=>exact⟨0,ah,rfl,hid ⟨allTo.zero,allTo.zero⟩,HO,HB⟩
  case round=>
   clear HO HB
   obtain⟨k,hk,rfl,HA,HO,HB⟩:=hrel
   by_cases hlk:k<40
   ·obtain⟨ad,rfl,hadb,c0⟩:=(HT.out.below HB.out).at_ (k:=k) (by rw[LT.out];exact hlk)
    obtain⟨ae,rfl,haeb,c1⟩:=(HR.out.below HB.out).at_ (k:=k) (by rw[LR.out];exact hlk)
    have x64:=WT.out.at_ k
    have y64:=WR.out.at_ k
    have HA1:=hid (fun h1 h2=>And.intro (HA.out.1.succ h1) (HA.out.2.succ h2))
    generalize t.getD k 0=x at*
    generalize r.getD k 0=y at*
    have i3:(k:Int)<40:=ah
    have i4:(0:Int)<=k:=ah
    have KX:Hid (∀W,Calls Tryz.prog 163 #[.int .i64 x] W fun e w'=>e=.returned (.int .i64 (s16 x))/\w'=W):=hid (fun W=>(xU x W).mono fun _ _ h=>⟨h.1,h.2.symm⟩)
    have KY:Hid (∀W,Calls Tryz.prog 163 #[.int .i64 y] W fun e w'=>e=.returned (.int .i64 (s16 y))/\w'=W):=hid (fun W=>(xU y W).mono fun _ _ h=>⟨h.1,h.2.symm⟩)
    by_cases hx:x< -32768\/32767<x
    ·have e1:(x==s16 x)=false:=abw
     have e2:(x !=s16 x)=true:=by rw[bne_iff_ne];exact fun h=>rN hx h.symm
     clear hx x64 y64
     exact l86
    by_cases hy:y< -32768\/32767<y
    ·have e1:(y==s16 y)=false:=abx
     have e2:(y !=s16 y)=true:=by rw[bne_iff_ne];exact fun h=>rN hy h.symm
     have e3:=kH (x:=x) ah ah
     rw[e3] at KX
     clear hx hy x64 y64 e3
     exact l86
    have e3:=kH (x:=x) ah ah
    have e4:=kH (x:=y) ah ah
    rw[e3] at KX
    rw[e4] at KY
    have HA2:=hid (HA1.out (qI ah ah) (qI ah ah))
    obtain⟨p1,p2⟩:=kU (x:=x) (y:=y) ah ah ah ah
    obtain⟨xs,hxl,hxb,hO⟩:=HO.out
    have co:=hO.cell 0 ah
    have fo:=hO.frozen 0
    obtain⟨s,hs⟩:∃s,s=xs.getD 0 0:=⟨_,rfl⟩
    rw[<-hs] at co hxb
    have s1: -1073741824000<=s:=ah
    have s2:s<=1073741824000:=ah
    have hw2:IntKind.i64.wrap (x*y)=x*y:=aN
    have hw3:IntKind.i64.wrap (s+x*y)=s+x*y:=aN
    have hw4:IntKind.i64.wrap ((k:Int))=k:=aN
    have NO:=hid (fun N=>show GV w ((wr.drewN N).setCell ⟨w.heap.size,0,none⟩ (.int .i64 (s+x*y))) (k+1) from⟨_,by rw[List.length_set];exact hxl,by rw[gQ _ _ _ ah];omega,(hO.drewN N).set_ 0 ah (s+x*y)⟩)
    have NB:=hid (fun N=>(HB.out.trans ((iJ wr N).mono HB.out.size)).setCell (p:=⟨w.heap.size,0,none⟩) (al0z _) (.int .i64 (s+x*y)))
    have hadn:ad.block≠w.heap.size:=ah
    have haen:ae.block≠w.heap.size:=ah
    have HSS:=hid hs
    clear hx hy x64 y64 e3 e4 hs hxl hxb hO
    go_wp2
    go_quiet ((go_at_call 163;first|(with_reducible exact Calls.quiet_of_same (KX.out _))|(with_reducible exact Calls.quiet_of_same (KY.out _))))
    go_wp2
    go_region
    clear hw2 hw3 hw4
    go_wp2
    go_roundw
    case rel=>exact⟨k+1,ah,aO,HA2,hid (NO.out _),hid (NB.out _)⟩
    case measure=>simp[intOf]<;>omega
   exfalso
   obtain rfl:k=40:=ah
   exact HB0.out ⟨HA.out.1.all (by rw[LT.out];exact al0z _),HA.out.2.all (by rw[LR.out];exact al0z _)⟩
theorem afi(A A2:Option Addr)(c c2 n1 n2:Nat)(t r:List Int)(w:World)(ht:Rs w w.heap.size A t)(hr:Rs w w.heap.size A2 r)(lt:t.length=n1)(lr:r.length=n2)(wt:W64 t)(wr':W64 r):
 Calls Tryz.prog 100 #[.slice A n1 c,.slice A2 n2 c2] w (NewSE w (tgL t r) (jT t r)):=by
 by_cases hn1:n1=40
 rotate_left
 ·have FIN:=hid (fun w' (hB:Below w.heap.size w w')=>show NewSE w (tgL t r) (jT t r) (.returned (.tuple #[.slice none 0 0,.int .i64 1])) w' from OJ)
  have d0:((n1:Int) !=40)=true:=aJ
  have d1: ¬(n1:Int)=40:=ah
  clear hn1 ht hr lt lr wt wr'
  go_enter Tryz.func100,Tryz.ntmps100
  exact l36
 by_cases hn2:n2=40
 rotate_left
 ·have FIN:=hid (fun w' (hB:Below w.heap.size w w')=>show NewSE w (tgL t r) (jT t r) (.returned (.tuple #[.slice none 0 0,.int .i64 1])) w' from OJ)
  subst hn1
  have d0:((n2:Int) !=40)=true:=aJ
  have d1: ¬(n2:Int)=40:=ah
  clear hn2 ht hr lt lr wt wr'
  go_enter Tryz.func100,Tryz.ntmps100
  exact l36
 subst hn1
 subst hn2
 have hE:=Qk lt lr
 by_cases hg:aG t=true/\aG r=true
 ·have hb:tgB t r=true:=by unfold tgB;rw[hg.1,hg.2];rfl
  have h0:jT t r=0:=zo
  rw[h0,GU h0]
  exact afg A A2 c c2 t r w ht hr lt lr hg.1 hg.2
 ·have hb:tgB t r=false:=by unfold tgB;simpa using hg
  have h0:jT t r=2:=zo
  rw[h0,Gz (by rw[h0];decide)]
  exact afh A A2 c c2 t r w ht hr lt lr hg wt wr'
theorem afj(A A2:Option Addr)(c c2 n1 n2:Nat)(t r:List Int)(w:World)(ht:Rs w w.heap.size A t)(hr:Rs w w.heap.size A2 r)(lt:t.length=n1)(lr:r.length=n2)(l1:n1<=17592186044416)(l2:n2<=17592186044416)(wr':W64 r):
 Calls Tryz.prog 127 #[.slice A n1 c,.slice A2 n2 c2] w (NewSE w (tgL t r) (jT t r)):=by
 have K1:=hid (fun W (h:Rs W w.heap.size A t)=>kJ A c n1 w.heap.size t W h lt l1)
 have K2:=hid (fun W (h:Rs W w.heap.size A2 r)=>kJ A2 c2 n2 w.heap.size r W h lr l2)
 have HT:=hid ht
 have HR:=hid hr
 by_cases hn1:n1=40
 rotate_left
 ·have FIN:=hid (fun w' (hB:Below w.heap.size w w')=>show NewSE w (tgL t r) (jT t r) (.returned (.tuple #[.slice none 0 0,.int .i64 1])) w' from OJ)
  have d0:((n1:Int) !=40)=true:=aJ
  have d1: ¬(n1:Int)=40:=ah
  clear hn1 ht hr lt lr
  go_enter Tryz.func127,Tryz.ntmps127
  exact l36
 by_cases hn2:n2=40
 rotate_left
 ·have FIN:=hid (fun w' (hB:Below w.heap.size w w')=>show NewSE w (tgL t r) (jT t r) (.returned (.tuple #[.slice none 0 0,.int .i64 1])) w' from OJ)
  subst hn1
  have d0:((n2:Int) !=40)=true:=aJ
  have d1: ¬(n2:Int)=40:=ah
  clear hn2 ht hr lt lr
  go_enter Tryz.func127,Tryz.ntmps127
  exact l36
 subst hn1
 subst hn2
 have hE:=Qk lt lr
 by_cases gt:aG t=true
 rotate_left
 ·have hb:tgB t r=false:=by unfold tgB;simp[gt]
  have FIN:=hid (fun w' (hB:Below w.heap.size w w')=>show NewSE w (tgL t r) (jT t r) (.returned (.tuple #[.slice none 0 0,.int .i64 2])) w' from by rw[Gz Og,hE,hb];exact NewSE.none_ hB)
  have gf:aG t=false:=by simpa using gt
  rw[gf] at K1
  clear gt gf hb hE ht hr lt lr
  go_enter Tryz.func127,Tryz.ntmps127
  go_wp2_with fail
  refine(K1.out _ HT.out).mono ?_
  rintro e w1 ⟨rfl,rfl⟩
  exact l36
 by_cases gr:aG r=true
 rotate_left
 ·have hb:tgB t r=false:=by unfold tgB;simp[gr]
  have FIN:=hid (fun w' (hB:Below w.heap.size w w')=>show NewSE w (tgL t r) (jT t r) (.returned (.tuple #[.slice none 0 0,.int .i64 2])) w' from by rw[Gz Og,hE,hb];exact NewSE.none_ hB)
  have gf:aG r=false:=by simpa using gr
  rw[gt] at K1
  rw[gf] at K2
  clear gt gr gf hb hE ht hr lt lr
  go_enter Tryz.func127,Tryz.ntmps127
  go_wp2_with fail
  refine(K1.out _ HT.out).mono ?_
  rintro e w1 ⟨rfl,rfl⟩
  go_wp2_with fail
  refine(K2.out _ HR.out).mono ?_
  rintro e w2 ⟨rfl,rfl⟩
  exact l36
 have hb:tgB t r=true:=by unfold tgB;rw[gt,gr];rfl
 have HE:=hid (show jT t r=0 from zo)
 have HL:=hid (show tgL t r=(List.range 40).map (tgE t r) from GU HE.out)
 have GT:=hid (fQ gt)
 have KL:=hid (fun n W (h:Rs W W.heap.size A2 r) (hn:n<=40)=>ae8 A2 c2 r n W h lr hn wr')
 have KD:=hid (fun n W Aq cq (h1:Rs W W.heap.size A t) (h2:Rs W W.heap.size Aq (jr r n))=>zH A Aq c cq 40 40 t (jr r n) W h1 h2 lt (Qi _ _) (al0z _) ah (fQ gt) (ae2 _ _))
 rw[gt] at K1
 rw[gr] at K2
 clear gt gr hb hE ht hr lt lr wr'
 go_enter Tryz.func127,Tryz.ntmps127
 go_wp2_with fail
 refine(K1.out _ HT.out).mono ?_
 rintro e w1 ⟨rfl,rfl⟩
 go_wp2_with fail
 refine(K2.out _ HR.out).mono ?_
 rintro e w2 ⟨rfl,rfl⟩
 have B2:=hid (aA w.heap.size w)
 go_wp2
 go_loopw[6,7] (fun ov iv wr=> ∃(k:Nat) (Ao:Option Addr) (co:Nat),k<=40/\iv=.int .i64 k/\ov=.slice Ao k co/\Hid (Own wr w.heap.size Ao co ((List.range k).map (tgE t r)))/\Hid (Below w.heap.size w wr)) (fun _ iv _=>40-(intOf iv).toNat)
 case atStart=>exact⟨0,none,0,ah,rfl,rfl,hid Own.nil,B2⟩
 case round=>
  clear B2
  obtain⟨k,Ao,co,hk,rfl,rfl,HO,HB⟩:=hrel
  by_cases hlt:k<40
  ·have hk40:k<=40:=hk
   go_wp2_with fail
   refine(KL.out k wr ((HR.out.below HB.out).more HB.out.size) hk40).mono ?_
   rintro e w3 ⟨A3,c3,rfl,hO,hB⟩
   have L3:=hid hO
   have O3:=hid (HO.out.below hB)
   have B3:=hid (HB.out.trans (hB.mono HB.out.size))
   clear hO hB HO HB
   go_wp2_with fail
   refine(KD.out k w3 A3 c3 ((HT.out.below B3.out).more B3.out.size) L3.out.reads).mono ?_
   rintro e w4 ⟨rfl,hB⟩
   have O4:=hid (O3.out.below hB)
   have B4:=hid (B3.out.trans (hB.mono B3.out.size))
   have HD:=hid (afa t r k)
   generalize bz t (jr r k) 40=x at*
   clear hB O3 B3 L3
   go_wp2_with(at_builtin;refine vP rfl (.tmp 28) (.tmp 34) rfl w.heap.size Ao co k ((List.range k).map (tgE t r)) rfl az (O4.out.alloc _) ⟨w4.heap.size,0,none⟩ x rfl (mW w4 _ _) ah (gJ B4.out.size az) ?_;intro A5 c5 w5 hO hG hA;have O5:=hid hO;have G5:=hid hG;clear hO hG hA)
   have N1:=hid (show Own w5 w.heap.size A5 c5 ((List.range (k+1)).map (tgE t r)) by rw[<-CP,<-HD.out];exact O5.out)
   have N4:=hid (uB (B4.out.alloc B4.out.size _) (O4.out.alloc _) G5.out (gJ B4.out.size az))
   go_wp2
   go_roundw
   case rel=>exact⟨k+1,A5,c5,ah,aO,rfl,N1,N4⟩
   case measure=>simp[intOf]<;>omega
  obtain rfl:k=40:=ah
  go_wp2
  go_ret2
  exact⟨Ao,co,by rw[HL.out,HE.out];simp,by rw[HL.out];exact HO.out,HB.out⟩
theorem Ib{n j:Nat}(f:Nat->Int)(h:j<n):((List.range n).map f).getD j 0=f j:=by
 rw[bi,rq,List.getElem?_range h]
 rfl
def uG(w:World)(a:List Int)(e:Ending)(w':World):Prop:=e=.returned (.tuple #[.agg (agi (lW a)),.int .i64 (aZ (bM a))])/\Below w.heap.size w w'
theorem XN{w w':World}{a:List Int}(h:bM a=false)(hB:Below w.heap.size w w'):uG w a (.returned (.tuple #[.agg (agi Z9),.int .i64 2])) w':=by
 refine⟨?_,hB⟩
 unfold lW aZ
 rw[h]
 rfl
theorem XO{w w':World}{a ys:List Int}(h:bM a=true)(hl:ys.length=9)(hy:∀j,j<9->ys.getD j 0=((cH a 8).getD j 0+2048)/4096)(hB:Below w.heap.size w w'):uG w a (.returned (.tuple #[.agg (agi ys),.int .i64 0])) w':=by
 refine⟨?_,hB⟩
 have e:ys=lW a:=by
  apply bV (by rw[hl,Pz])
  intro j hj
  rw[hy j ah]
  unfold lW
  rw[if_pos h,Ib _ (show j<9 from ah)]
 unfold aZ
 rw[h,e]
 rfl
def P0:List Int:=[16777216,0,0,0,0,0,0,0,0]
theorem Qp(k:List Int)(j:Nat):(cH k 0).getD j 0=P0.getD j 0:=by
 match j with
 |0=>rfl
 |1=>rfl
 |2=>rfl
 |3=>rfl
 |4=>rfl
 |5=>rfl
 |6=>rfl
 |7=>rfl
 |8=>rfl
 |j+9=>rfl
theorem afT(k:List Int)(m i:Nat)(h0:1<=i)(h:i<=m+1):(cH k (m+1)).getD i 0=(cH k m).getD i 0+k.getD m 0*(cH k m).getD (m+1-i) 0/32768:=by
 rw[cH,xP _ _ _ _ h,if_neg ah]
theorem uH(k:List Int)(m:Nat):(cH k (m+1)).getD 0 0=(cH k m).getD 0 0:=by
 rw[cH,xP _ _ _ _ ah,if_pos rfl]
theorem XP(k:List Int)(m i:Nat)(h:m<i):(cH k m).getD i 0=0:=by
 rw[bi,List.getElem?_eq_none NJ];rfl
theorem zK{k:List Int}(h:∀i,-32768<k.getD i 0/\k.getD i 0<32768){m:Nat}(hm:m<=8)(i:Nat): -4294967296<=(cH k m).getD i 0/\(cH k m).getD i 0<=4294967296:=by
 have h1:=aea (k:=k) (fun i=>⟨by have:=h i;omega,by have:=h i;omega⟩) m i
 have h2:(2:Nat)^m<=2^8:=Nat.pow_le_pow_right aB hm
 have h3:((2^m:Nat):Int)=2^m:=az
 omega
def DirMid(a ys:List Int)(m i:Nat):Prop:=ys.length=9/\∀j,ys.getD j 0=if j<i then(cH a (m+1)).getD j 0 else(cH a m).getD j 0
theorem DirMid.start{a ys:List Int}{m:Nat}(hl:ys.length=9)(h:∀j,ys.getD j 0=(cH a m).getD j 0):DirMid a ys m 1:=⟨hl,fun j=>by
 rw[h j]
 split
 ·obtain rfl:j=0:=ah
  exact(uH a m).symm
 ·rfl⟩
theorem DirMid.step{a ys:List Int}{m i:Nat}(h:DirMid a ys m i)(h0:1<=i)(hi:i<=m+1)(h9:i<9):
 DirMid a (ys.set i ((cH a m).getD i 0+a.getD m 0*(cH a m).getD (m+1-i) 0/32768)) m (i+1):=by
 refine⟨by simpa using h.1,fun j=>?_⟩
 by_cases he:i=j
 ·subst he
  rw[gQ _ _ _ (by rw[h.1];exact h9),if_pos ah,afT a m i h0 hi]
 ·rw[iw _ _ he,h.2 j]
  exact acH
theorem DirMid.fin{a ys:List Int}{m:Nat}(h:DirMid a ys m (m+2)):∀j,ys.getD j 0=(cH a (m+1)).getD j 0:=fun j=>by
 rw[h.2 j]
 split
 ·rfl
 rw[XP a m j ah,XP a (m+1) j ah]
theorem afU(a:List Int)(w:World)(ha:a.length=8):Calls Tryz.prog 89 #[.agg (agi a)] w (uG w a):=by
 have I0:=hid (Bx2.start 22 w a)
 have hR:=oL (fn:=Tryz.f89) (p:=2) (q:=3) (ty:=90) rfl
 have HA:=hid ha
 have HIX:=hid (fun(k:Nat) (hk:k<8) (w:World)=>jp Tryz.underlying22 a ha k hk w)
 have O1:=IB.new ((w.alloc (.cells (agi a) 22)).alloc (.cells (agi Z9) 90)) 90 Z9
 have I1:=hid ((I0.out.below ((aA _ _).alloc (al0z _) (.cells (agi Z9) 90))))
 simp only[bU] at O1
 have O2:=hid (IB.setRow O1 P0)
 have I2:=hid (show Bx2 22 w ((((w.alloc (.cells (agi a) 22)).alloc (.cells (agi Z9) 90)).alloc (.cells (agi Z9) 90)).setRow (w.heap.size+1+1) (agi P0)) a Z9 from
  ⟨Blk.rowFar I1.out.A ah,Blk.rowFar I1.out.R ah,aS I1.out.bel ah _⟩)
 have O1:=hid O1
 clear ha I0
 go_enter Tryz.func89,Tryz.ntmps89
 go_wp2_with(first
  |(refine aP rfl 90 (.tmp 4) (.tmp 12) rfl _ 90 Z9 P0 9 rfl rfl O1.out bC rfl rfl ?_)
  |(refine aK rfl 22 (.tmp 1) rfl _ 22 a 8 _ rfl I2.out.A Tryz.underlying22 rfl aH HA.out ?_))
 go_loop [14] (fun iv=> ∃k:Nat,k<=8/\iv=.int .i64 k/\Hid (allTo okR a k)) (fun iv=>8-(intOf iv).toNat)
 case atStart=>exact⟨0,ah,rfl,hid allTo.zero⟩
 case round=>
  obtain⟨k,hk,rfl,HY⟩:=hrel
  by_cases hlt:k<8
  ·have hix:=HIX.out k hlt
   obtain⟨x,hx⟩:∃x,x=a.getD k 0:=⟨_,rfl⟩
   rw[<-hx] at hix
   have HX:=hid hx
   clear hx
   by_cases hbad:x<= -32768\/32768<=x
   ·have FIN:=hid (XN (a:=a) (iL (i:=k) uk (CC vh)) (aS I2.out.bel (g:=w.heap.size+1) ah (agi Z9)))
    have hRow:=hid (I2.out.R.setRow Z9)
    rcases hbad with b1|b1
    ·exact l90
    have b0: ¬x<= -32768:=ah
    exact l90
   have b1: -32768<x:=ah
   have b2:x<32768:=ah
   have HN:=hid (HY.out.succ (by rw[<-HX.out];exact zC b1 b2))
   clear hbad
   exact l47
  obtain rfl:k=8:=ah
  have sd:bM a=true:=HY.out.all EG
  have SD:=hid sd
  have SA:=hid (fun i=>xQ sd i)
  clear hlt sd
  go_wp2_with(refine aK rfl 22 (.tmp 1) rfl _ 22 a 8 _ rfl I2.out.A Tryz.underlying22 rfl aH HA.out ?_)
  go_loopw[26] (fun iv wr=> ∃(m:Nat) (ys:List Int),m<=8/\iv=.int .i64 m/\Hid (ys.length=9/\∀j,ys.getD j 0=(cH a m).getD j 0)/\Hid (Bx2 22 w wr a Z9)/\Hid (IB wr (w.heap.size+1+1) 90 ys)) (fun iv _=>8-(intOf iv).toNat)
  case atStart=>exact⟨0,P0,ah,rfl,hid ⟨rfl,fun j=>(Qp a j).symm⟩,I2,O2⟩
  case round=>
   clear I2 O2 O1 I1
   obtain⟨m,ys,hm,rfl,HY,HI,HO⟩:=hrel
   obtain⟨wo,rfl⟩:∃wo:World,wo=wr:=⟨_,rfl⟩
   by_cases hlt:m<8
   ·have hix:=HIX.out m hlt
    obtain⟨q,hq⟩:∃q,q=a.getD m 0:=⟨_,rfl⟩
    rw[<-hq] at hix
    have sq:=SA.out m
    rw[<-hq] at sq
    obtain⟨q1,q2⟩:=sq
    have HQ:=hid hq
    clear hq
    have NB:=hid (IB.stored wo 90 Z9 ys)
    have OB:=hid (Blk.stored (c2:=agi ys) HO.out (.cells (agi Z9) 90))
    have hne:=Blk.lt HO.out
    have IB2:=hid (show Bx2 22 w ((wo.alloc (.cells (agi Z9) 90)).setRow wo.heap.size (agi ys)) a Z9 from
     ⟨Blk.stored HI.out.A _,Blk.stored HI.out.R _,HI.out.bel.trans ((bT wo _ _).mono (by have:=HI.out.lt;omega))⟩)
    have MID:=hid (DirMid.start HY.out.1 HY.out.2)
    rw[jq] at NB OB IB2
    go_wp2_with(first
     |(refine aK rfl 90 (.tmp 4) rfl _ 90 ys 9 _ rfl HO.out Tryz.underlying90 rfl bC HY.out.1 ?_)
     |(refine aP rfl 90 (.tmp 9) (.tmp 30) rfl _ 90 Z9 ys 9 rfl rfl (IB.new wo 90 Z9) bC rfl HY.out.1 ?_))
    go_loopw[10] (fun jv wr2=> ∃(i:Nat) (zs:List Int),1<=i/\i<=m+2/\jv=.int .i64 i/\Hid (DirMid a zs m i)/\Hid (Bx2 22 w wr2 a Z9)/\Hid (IB wr2 (w.heap.size+1+1) 90 zs)/\Hid (IB wr2 wo.heap.size 90 ys)) (fun jv _=>m+2-(intOf jv).toNat)
    case atStart=>exact⟨1,ys,ah,ah,rfl,MID,IB2,OB,NB⟩
    case round=>
     clear NB OB IB2 MID
     obtain⟨i,zs,hi1,hi2,rfl,HM,HI2,HO2,HW2⟩:=hrel
     by_cases hle:i<=m+1
     ·obtain⟨d,hd⟩:∃d:Nat,m+1=i+d:=⟨m+1-i,ah⟩
      have hsub:(m:Int)+1-(i:Int)=(d:Nat):=ah
      have c1:=HW2.out.cell i EW
      have c2:=HW2.out.cell d EW
      have c3:=HO2.out.cell i Ny
      have f3:=Blk.frozen HO2.out i
      rw[HY.out.2] at c1 c2
      have bx:=zK SA.out hm i
      have by':=zK SA.out hm d
      have ST:=hid (HM.out.step hi1 hle ah)
      rw[<-HQ.out,show m+1-i=d from ah] at ST
      generalize (cH a m).getD i 0=x at*
      generalize (cH a m).getD d 0=y at*
      obtain⟨bx1,bx2⟩:=bx
      obtain⟨by1,by2⟩:=by'
      have pr:=ja (x:=q) (X:=32768) (y:=y) (Y:=4294967296) ah ah ⟨ah,ah⟩ ⟨ah,ah⟩
      have p1: -140737488355328<=q*y:=ah
      have p2:q*y<=140737488355328:=ah
      have NI:=hid (HI2.out.setCell (g:=w.heap.size+1+1) ah i (.int .i64 (x+q*y/32768))).drew
      have NO:=hid (IB.set_ HO2.out i (x+q*y/32768))
      have NW:=hid (Blk.far HW2.out (p:=⟨w.heap.size+1+1,i,none⟩) (by show wo.heap.size≠w.heap.size+1+1;omega) (.int .i64 (x+q*y/32768)))
      have hd9:d<9:=ah
      have hi9:i<9:=ah
      clear pr hd
      go_wp2
      go_region
      all_goals
       go_wp2
       go_roundw
       case rel=>exact⟨i+1,_,ah,ah,aO,ST,NI,NO,NW⟩
       case measure=>simp[intOf]<;>omega
     obtain rfl:i=m+2:=ah
     have HF:=hid (show zs.length=9/\∀j,zs.getD j 0=(cH a (m+1)).getD j 0 from⟨HM.out.1,HM.out.fin⟩)
     go_wp2
     go_roundw
     case rel=>exact⟨m+1,zs,ah,aO,HF,HI2,HO2⟩
     case measure=>simp[intOf]<;>omega
   obtain rfl:m=8:=ah
   have BD:=hid (fun j=>zK SA.out (show 8<=8 from ah) j)
   clear hlt
   go_wp2
   go_loopw[53] (fun iv wr=> ∃(k:Nat) (zs:List Int),k<=9/\iv=.int .i64 k/\Hid (zs.length=9/\(∀j,j<k->zs.getD j 0=((cH a 8).getD j 0+2048)/4096)/\∀j,k<=j->zs.getD j 0=(cH a 8).getD j 0)/\Hid (Bx2 22 w wr a Z9)/\Hid (IB wr (w.heap.size+1+1) 90 zs)) (fun iv _=>9-(intOf iv).toNat)
   case atStart=>exact⟨0,ys,ah,rfl,hid ⟨HY.out.1,fun j h=>ah,fun j _=>HY.out.2 j⟩,HI,HO⟩
   case round=>
    clear HI HO HY
    obtain⟨k,zs,hk,rfl,HY,HI,HO⟩:=hrel
    by_cases hlt:k<9
    ·have c3:=HO.out.cell k rG
     have f3:=Blk.frozen HO.out k
     rw[HY.out.2.2 k (al0z _)] at c3
     obtain⟨b1,b2⟩:=BD.out k
     obtain⟨x,hx⟩:∃x,x=(cH a 8).getD k 0:=⟨_,rfl⟩
     rw[<-hx] at c3 b1 b2
     have HX:=hid hx
     clear hx
     have NEXT:=hid (show Hid ((zs.set k ((x+2048)/4096)).length=9/\(∀j,j<k+1->(zs.set k ((x+2048)/4096)).getD j 0=((cH a 8).getD j 0+2048)/4096)/\∀j,k+1<=j->(zs.set k ((x+2048)/4096)).getD j 0=(cH a 8).getD j 0) from by
      obtain⟨q1,q3,q4⟩:=HY.out
      refine⟨xu,fun j hj=>?_,fun j hj=>?_⟩
      ·by_cases he:k=j
       ·subst he
        rw[gQ _ _ _ ah,HX.out]
       ·rw[iw _ _ he]
        exact q3 j ah
      ·rw[iw _ _ ah]
       exact q4 j ah)
     have NI:=hid (HI.out.setCell (g:=w.heap.size+1+1) ah k (.int .i64 ((x+2048)/4096)))
     have NO:=hid (IB.set_ HO.out k ((x+2048)/4096))
     go_wp2
     go_roundw
     case rel=>exact⟨k+1,_,ah,aO,NEXT.out,NI,NO⟩
     case measure=>simp[intOf]<;>omega
    obtain rfl:k=9:=ah
    have FIN:=hid (XO SD.out HY.out.1 HY.out.2.1 (aS HI.out.bel (g:=w.heap.size+1) ah (agi zs)))
    have hRow:=hid (HI.out.R.setRow zs)
    clear hlt
    go_wp2_with(first
     |(refine aK rfl 90 (.tmp 4) rfl _ 90 zs 9 _ rfl HO.out Tryz.underlying90 rfl bC HY.out.1 ?_)
     |(refine aP rfl 90 (.tmp 2) (.tmp 64) rfl _ 90 Z9 zs 9 rfl rfl HI.out.R bC rfl HY.out.1 ?_))
    exact aci
def iq(X:Nat):Nat->Nat
 |0=>0
 |k+1=>iq X k+X/2^k%2
theorem Ih(X:Nat){j m:Nat}(h:X/2^j=0)(hm:j<=m):iq X m=iq X j:=by
 induction m with
 |zero=>obtain rfl:j=0:=by omega
        rfl
 |succ m ih=>
  by_cases e:j=m+1
  ·rw[e]
  have h1:=ih ah
  have h2:X/2^m=0:=by
   obtain⟨d,rfl⟩:∃d,m=j+d:=⟨m-j,ah⟩
   rw[Nat.pow_add,<-Nat.div_div_eq_div_mul,h,Nat.zero_div]
  simp only[iq]
  rw[h1,h2,Nat.zero_mod,Nat.add_zero]
theorem Ii(X k:Nat):iq X k<=k:=by
 induction k with
 |zero=>exact al0z _
 |succ k ih=>simp only[iq];omega
theorem Qs(X j:Nat):X/2^j/2=X/2^(j+1):=by rw[Nat.div_div_eq_div_mul,Nat.pow_succ]
def gX(x:Int):Nat:=iq x.toNat 63
theorem Qu{x:Int}(h:x<=9223372036854775807):x.toNat/2^63=0:=Nat.div_eq_of_lt ah
def Dx(ps:List Int):Int:=((gX (ps.getD 0 0)+gX (ps.getD 9 0)+gX (ps.getD 17 0))%2:Nat)
def gY(a b c:Int)(k:Nat):Nat:=(if 0<k then gX a else 0)+(if 1<k then gX b else 0)+(if 2<k then gX c else 0)
theorem Qv(x:Int):gX x<=63:=Ii _ _
theorem Qw(a b:Nat):bits BinOp.xor IntKind.i64 ((a:Int)%2) ((b:Int)%2)=((a+b:Nat):Int)%2:=by
 have ha:(a:Int)%2=0\/(a:Int)%2=1:=ah
 have hb:(b:Int)%2=0\/(b:Int)%2=1:=ah
 have e:((a+b:Nat):Int)%2=((a:Int)%2+(b:Int)%2)%2:=ah
 rw[e]
 rcases ha with h|h<;>rcases hb with h2|h2<;>rw[h,h2]<;>rfl
theorem af9(ps:List Int)(w:World)(hl:ps.length=25)(hw:W64 ps):
 Calls Tryz.prog 66 #[.agg (agi ps)] w fun e w'=>e=.returned (.int .i64 (Dx ps))/\Below w.heap.size w w':=by
 have P0:=IB.new w 38 ps
 have B0:=hid ((aA w.heap.size w).alloc (al0z _) (.cells (agi ps) 38))
 have c0:=IB.cell P0 0 ah
 have c1:=IB.cell P0 9 ah
 have c2:=IB.cell P0 17 ah
 have HA:=hw.at_ 0
 have HB:=hw.at_ 9
 have HC:=hw.at_ 17
 have HP:=hid (show Dx ps=((gX (ps.getD 0 0)+gX (ps.getD 9 0)+gX (ps.getD 17 0))%2:Nat) from rfl)
 obtain⟨a,ha⟩:∃a,a=ps.getD 0 0:=⟨_,rfl⟩
 obtain⟨b,hb⟩:∃b,b=ps.getD 9 0:=⟨_,rfl⟩
 obtain⟨c,hc⟩:∃c,c=ps.getD 17 0:=⟨_,rfl⟩
 rw[<-ha] at c0 HA HP
 rw[<-hb] at c1 HB HP
 rw[<-hc] at c2 HC HP
 obtain⟨V,hV⟩:∃V,V=w.alloc (.cells (agi ps) 38):=⟨_,rfl⟩
 rw[<-hV] at c0 c1 c2 B0
 have HV:=hid hV
 have HA:=hid HA
 have HB:=hid HB
 have HC:=hid HC
 clear ha hb hc hV hw hl P0
 go_enter Tryz.func66,Tryz.ntmps66
 go_wp2_with(rw[<-HV.out];clear HV)
 go_loop [3,17] (fun nv iv=> ∃k:Nat,k<=3/\iv=.int .i64 k/\nv=.int .i64 ((gY a b c k:Nat)%2:Int)) (fun _ iv=>3-(intOf iv).toNat)
 case atStart=>exact⟨0,ah,rfl,rfl⟩
 case round=>
  obtain⟨k,hk,rfl,rfl⟩:=hrel
  by_cases hlt:k<3
  ·obtain rfl|rfl|rfl:k=0\/k=1\/k=2:=ah
   ·have HS:=hid (show gY a b c (0+1)=gY a b c 0+gX a from BQ)
    have hix:∀w',(Instr.index 166 (.agg #[.int .i64 a,.int .i64 b,.int .i64 c]) (.int .i64 0)).run Tryz.prog w'=.ok (.int .i64 a) w':=fun _=>au
    obtain⟨n0,hn0⟩:∃n0,n0=gY a b c 0:=⟨_,rfl⟩
    rw[<-hn0] at HS|-
    clear hn0
    try rw[show((0:Nat):Int)=0 from rfl]
    have hdec:decide ((0:Int)<3)=true:=rfl
    go_wp2
    go_loop [3,5] (fun nv xv=> ∃(j N:Nat) (y:Int),j<=63/\y<=9223372036854775807/\xv=.int .i64 y/\nv=.int .i64 ((N:Int)%2)/\Hid (N=n0+iq a.toNat j)/\Hid (y.toNat=a.toNat/2^j)) (fun _ xv=>(intOf xv).toNat)
    case atStart=>exact⟨0,n0,a,ah,HA.out.2,rfl,rfl,hid rfl,hid az⟩
    case round=>
     obtain⟨j,N,y,hj,hy,rfl,rfl,HN,HY⟩:=hrel
     by_cases hpos:0<y
     ·have hj63:j<63:=by
       refine Classical.byContradiction fun hc=>?_
       obtain rfl:j=63:=ah
       have:=HY.out
       rw[Qu HA.out.2] at this
       omega
      have ha:=zG y
      have hx:=Qw N y.toNat
      rw[show((y.toNat:Nat):Int)%2=y%2 from ah] at hx
      obtain⟨M,hM⟩:∃M,M=N+y.toNat:=⟨_,rfl⟩
      rw[<-hM] at hx
      have HE:=hid (show iq a.toNat (j+1)=iq a.toNat j+a.toNat/2^j%2 from rfl)
      have HH:=hid (Qs a.toNat j)
      have HM:=hid hM
      clear hM
      go_wp2
      refine⟨⟨j+1,iq a.toNat (j+1)+n0,y/2,ah,ah,rfl,?_,hid (Nat.add_comm _ _),hid ?_⟩,?_⟩
      ·congr 1;have h1:=HM.out;have h2:=HE.out;have h3:=HN.out;have h4:=HY.out;omega
      ·rw[<-HH.out,<-HY.out];omega
      simp[intOf]<;>omega
     have hz:a.toNat/2^j=0:=by have:=HY.out;omega
     have HE:=hid (show N=gY a b c (0+1) from Um)
     clear hz
     go_wp2
     refine⟨⟨0+1,ah,rfl,by rw[HE.out]⟩,?_⟩
     simp[intOf]
   ·have HS:=hid (show gY a b c (1+1)=gY a b c 1+gX b from BQ)
    have hix:∀w',(Instr.index 166 (.agg #[.int .i64 a,.int .i64 b,.int .i64 c]) (.int .i64 1)).run Tryz.prog w'=.ok (.int .i64 b) w':=fun _=>au
    obtain⟨n0,hn0⟩:∃n0,n0=gY a b c 1:=⟨_,rfl⟩
    rw[<-hn0] at HS|-
    clear hn0
    try rw[show((1:Nat):Int)=1 from rfl]
    have hdec:decide ((1:Int)<3)=true:=rfl
    go_wp2
    go_loop [3,5] (fun nv xv=> ∃(j N:Nat) (y:Int),j<=63/\y<=9223372036854775807/\xv=.int .i64 y/\nv=.int .i64 ((N:Int)%2)/\Hid (N=n0+iq b.toNat j)/\Hid (y.toNat=b.toNat/2^j)) (fun _ xv=>(intOf xv).toNat)
    case atStart=>exact⟨0,n0,b,ah,HB.out.2,rfl,rfl,hid rfl,hid az⟩
    case round=>
     obtain⟨j,N,y,hj,hy,rfl,rfl,HN,HY⟩:=hrel
     by_cases hpos:0<y
     ·have hj63:j<63:=by
       refine Classical.byContradiction fun hc=>?_
       obtain rfl:j=63:=ah
       have:=HY.out
       rw[Qu HB.out.2] at this
       omega
      have ha:=zG y
      have hx:=Qw N y.toNat
      rw[show((y.toNat:Nat):Int)%2=y%2 from ah] at hx
      obtain⟨M,hM⟩:∃M,M=N+y.toNat:=⟨_,rfl⟩
      rw[<-hM] at hx
      have HE:=hid (show iq b.toNat (j+1)=iq b.toNat j+b.toNat/2^j%2 from rfl)
      have HH:=hid (Qs b.toNat j)
      have HM:=hid hM
      clear hM
      go_wp2
      refine⟨⟨j+1,iq b.toNat (j+1)+n0,y/2,ah,ah,rfl,?_,hid (Nat.add_comm _ _),hid ?_⟩,?_⟩
      ·congr 1;have h1:=HM.out;have h2:=HE.out;have h3:=HN.out;have h4:=HY.out;omega
      ·rw[<-HH.out,<-HY.out];omega
      simp[intOf]<;>omega
     have hz:b.toNat/2^j=0:=by have:=HY.out;omega
     have HE:=hid (show N=gY a b c (1+1) from Um)
     clear hz
     go_wp2
     refine⟨⟨1+1,ah,rfl,by rw[HE.out]⟩,?_⟩
     simp[intOf]
   have HS:=hid (show gY a b c (2+1)=gY a b c 2+gX c from BQ)
   have hix:∀w',(Instr.index 166 (.agg #[.int .i64 a,.int .i64 b,.int .i64 c]) (.int .i64 2)).run Tryz.prog w'=.ok (.int .i64 c) w':=fun _=>au
   obtain⟨n0,hn0⟩:∃n0,n0=gY a b c 2:=⟨_,rfl⟩
   rw[<-hn0] at HS|-
   clear hn0
   try rw[show((2:Nat):Int)=2 from rfl]
   have hdec:decide ((2:Int)<3)=true:=rfl
   go_wp2
   go_loop [3,5] (fun nv xv=> ∃(j N:Nat) (y:Int),j<=63/\y<=9223372036854775807/\xv=.int .i64 y/\nv=.int .i64 ((N:Int)%2)/\Hid (N=n0+iq c.toNat j)/\Hid (y.toNat=c.toNat/2^j)) (fun _ xv=>(intOf xv).toNat)
   case atStart=>exact⟨0,n0,c,ah,HC.out.2,rfl,rfl,hid rfl,hid az⟩
   case round=>
    obtain⟨j,N,y,hj,hy,rfl,rfl,HN,HY⟩:=hrel
    by_cases hpos:0<y
    ·have hj63:j<63:=by
      refine Classical.byContradiction fun hc=>?_
      obtain rfl:j=63:=ah
      have:=HY.out
      rw[Qu HC.out.2] at this
      omega
     have ha:=zG y
     have hx:=Qw N y.toNat
     rw[show((y.toNat:Nat):Int)%2=y%2 from ah] at hx
     obtain⟨M,hM⟩:∃M,M=N+y.toNat:=⟨_,rfl⟩
     rw[<-hM] at hx
     have HE:=hid (show iq c.toNat (j+1)=iq c.toNat j+c.toNat/2^j%2 from rfl)
     have HH:=hid (Qs c.toNat j)
     have HM:=hid hM
     clear hM
     go_wp2
     refine⟨⟨j+1,iq c.toNat (j+1)+n0,y/2,ah,ah,rfl,?_,hid (Nat.add_comm _ _),hid ?_⟩,?_⟩
     ·congr 1;have h1:=HM.out;have h2:=HE.out;have h3:=HN.out;have h4:=HY.out;omega
     ·rw[<-HH.out,<-HY.out];omega
     simp[intOf]<;>omega
    have hz:c.toNat/2^j=0:=by have:=HY.out;omega
    have HE:=hid (show N=gY a b c (2+1) from Um)
    clear hz
    go_wp2
    refine⟨⟨2+1,ah,rfl,by rw[HE.out]⟩,?_⟩
    simp[intOf]
  obtain rfl:k=3:=ah
  go_wp2
  go_ret
  exact⟨by rw[HP.out];rfl,B0.out⟩
theorem aga(ps:List Int)(w:World)(hl:ps.length=25)(hw:W64 ps):
 Calls Tryz.prog 33 #[.agg (agi ps)] w fun e w'=>e=.returned (.int .i64 (Dx ps))/\Below w.heap.size w w':=by
 have P0:=IB.new w 38 ps
 have B0:=((aA w.heap.size w).alloc (al0z _) (.cells (agi ps) 38))
 have c0:=IB.cell P0 0 ah
 have c1:=IB.cell P0 9 ah
 have c2:=IB.cell P0 17 ah
 have HA:=hw.at_ 0
 have HB:=hw.at_ 9
 have HC:=hw.at_ 17
 have HP:=hid (show Dx ps=((gX (ps.getD 0 0)+gX (ps.getD 9 0)+gX (ps.getD 17 0))%2:Nat) from rfl)
 obtain⟨a,ha⟩:∃a,a=ps.getD 0 0:=⟨_,rfl⟩
 obtain⟨b,hb⟩:∃b,b=ps.getD 9 0:=⟨_,rfl⟩
 obtain⟨c,hc⟩:∃c,c=ps.getD 17 0:=⟨_,rfl⟩
 rw[<-ha] at c0 HA HP
 rw[<-hb] at c1 HB HP
 rw[<-hc] at c2 HC HP
 obtain⟨V,hV⟩:∃V,V=w.alloc (.cells (agi ps) 38):=⟨_,rfl⟩
 have SV:V.heap.size=w.heap.size+1:=by rw[hV];simp
 rw[<-hV] at c0 c1 c2 B0
 have B0:=hid (B0.alloc ah (.cells #[.int .i64 a,.int .i64 b,.int .i64 c] 3))
 have HV:=hid hV
 have HA:=hid HA
 have HB:=hid HB
 have HC:=hid HC
 have L0:=hid (Blk.new V 3 #[.int .i64 a,.int .i64 b,.int .i64 c])
 clear ha hb hc hV hw hl P0 SV
 go_enter Tryz.func33,Tryz.ntmps33
 go_wp2_with(rw[<-HV.out];clear HV)
 obtain⟨g,hg⟩:∃g,g=V.heap.size:=⟨_,rfl⟩
 obtain⟨V2,hV2⟩:∃V2,V2=V.alloc (.cells #[.int .i64 a,.int .i64 b,.int .i64 c] 3):=⟨_,rfl⟩
 rw[<-hg,<-hV2] at L0|-
 rw[<-hV2] at B0
 have k0:V2.cell? ⟨g,0,none⟩=some (.int .i64 a):=Blk.cell L0.out 0
 have k1:V2.cell? ⟨g,1,none⟩=some (.int .i64 b):=Blk.cell L0.out 1
 have k2:V2.cell? ⟨g,2,none⟩=some (.int .i64 c):=Blk.cell L0.out 2
 clear hg hV2 c0 c1 c2
 go_loop [3,19] (fun nv iv=> ∃k:Nat,k<=3/\iv=.int .i64 k/\nv=.int .i64 (gY a b c k:Nat)) (fun _ iv=>3-(intOf iv).toNat)
 case atStart=>exact⟨0,ah,rfl,rfl⟩
 case round=>
  obtain⟨k,hk,rfl,rfl⟩:=hrel
  by_cases hlt:k<3
  ·obtain rfl|rfl|rfl:k=0\/k=1\/k=2:=ah
   ·have HS:=hid (show gY a b c (0+1)=gY a b c 0+gX a from BQ)
    obtain⟨n0,hn0⟩:∃n0,n0=gY a b c 0:=⟨_,rfl⟩
    have hn9:n0<=189:=Ue
    rw[<-hn0] at HS|-
    clear hn0
    try rw[show((0:Nat):Int)=0 from rfl]
    have hdec:decide ((0:Int)<3)=true:=rfl
    go_wp2
    go_loop [3,6] (fun nv kv=> ∃(j N:Nat),j<=63/\kv=.int .u64 j/\nv=.int .i64 (N:Nat)/\Hid (N=n0+iq a.toNat j)/\Hid (0<j->0<a)) (fun _ kv=>63-(intOf kv).toNat)
    case atStart=>exact⟨0,n0,ah,rfl,rfl,hid rfl,hid (fun h=>ah)⟩
    case round=>
     obtain⟨j,N,hj,rfl,rfl,HN,HJ⟩:=hrel
     have hxr:=HA.out
     by_cases hpos:0<a
     ·have d0:decide (0<a)=true:=BI
      by_cases hj63:j<63
      ·have d1:decide ((j:Int)<63)=true:=aJ
       have j0:(0:Int)<=j:=ah
       have j64:(j:Int)<64:=ah
       have hle:iq a.toNat j<=63:=gJ (Ii _ _) hj
       have hn:N<=300:=jo
       obtain⟨q,hq⟩:∃q:Nat,q=a.toNat/2^j:=⟨_,rfl⟩
       have hq2:a/2^j=(q:Nat):=by
        rw[hq]
        obtain⟨X,hX⟩:∃X:Nat,a=X:=⟨a.toNat,ah⟩
        rw[hX]
        simp
       have HE:=hid (show iq a.toNat (j+1)=iq a.toNat j+q%2 from by rw[hq];rfl)
       exact l63
      obtain rfl:j=63:=ah
      have d1:decide (((63:Nat):Int)<63)=false:=rfl
      have hE:N=gY a b c (0+1):=by rw[HN.out,HS.out];rfl
      try rw[show((63:Nat):Int)=63 from rfl]
      go_wp2
      refine⟨⟨0+1,ah,rfl,by rw[hE]⟩,?_⟩
      simp[intOf]
     obtain rfl:j=0:=by
      exact Va
     have d0:decide (0<a)=false:=BI
     have hE:N=gY a b c (0+1):=by
      rw[HN.out,HS.out]
      unfold gX
      rw[Ih a.toNat (j:=0) (m:=63) (by rw[show a.toNat=0 from ah]) ah]
     go_wp2
     refine⟨⟨0+1,ah,rfl,by rw[hE]⟩,?_⟩
     simp[intOf]
   ·have HS:=hid (show gY a b c (1+1)=gY a b c 1+gX b from BQ)
    obtain⟨n0,hn0⟩:∃n0,n0=gY a b c 1:=⟨_,rfl⟩
    have hn9:n0<=189:=Ue
    rw[<-hn0] at HS|-
    clear hn0
    try rw[show((1:Nat):Int)=1 from rfl]
    have hdec:decide ((1:Int)<3)=true:=rfl
    go_wp2
    go_loop [3,6] (fun nv kv=> ∃(j N:Nat),j<=63/\kv=.int .u64 j/\nv=.int .i64 (N:Nat)/\Hid (N=n0+iq b.toNat j)/\Hid (0<j->0<b)) (fun _ kv=>63-(intOf kv).toNat)
    case atStart=>exact⟨0,n0,ah,rfl,rfl,hid rfl,hid (fun h=>ah)⟩
    case round=>
     obtain⟨j,N,hj,rfl,rfl,HN,HJ⟩:=hrel
     have hxr:=HB.out
     by_cases hpos:0<b
     ·have d0:decide (0<b)=true:=BI
      by_cases hj63:j<63
      ·have d1:decide ((j:Int)<63)=true:=aJ
       have j0:(0:Int)<=j:=ah
       have j64:(j:Int)<64:=ah
       have hle:iq b.toNat j<=63:=gJ (Ii _ _) hj
       have hn:N<=300:=jo
       obtain⟨q,hq⟩:∃q:Nat,q=b.toNat/2^j:=⟨_,rfl⟩
       have hq2:b/2^j=(q:Nat):=by
        rw[hq]
        obtain⟨X,hX⟩:∃X:Nat,b=X:=⟨b.toNat,ah⟩
        rw[hX]
        simp
       have HE:=hid (show iq b.toNat (j+1)=iq b.toNat j+q%2 from by rw[hq];rfl)
       exact l63
      obtain rfl:j=63:=ah
      have d1:decide (((63:Nat):Int)<63)=false:=rfl
      have hE:N=gY a b c (1+1):=by rw[HN.out,HS.out];rfl
      try rw[show((63:Nat):Int)=63 from rfl]
      go_wp2
      refine⟨⟨1+1,ah,rfl,by rw[hE]⟩,?_⟩
      simp[intOf]
     obtain rfl:j=0:=by
      exact Va
     have d0:decide (0<b)=false:=BI
     have hE:N=gY a b c (1+1):=by
      rw[HN.out,HS.out]
      unfold gX
      rw[Ih b.toNat (j:=0) (m:=63) (by rw[show b.toNat=0 from ah]) ah]
     go_wp2
     refine⟨⟨1+1,ah,rfl,by rw[hE]⟩,?_⟩
     simp[intOf]
   have HS:=hid (show gY a b c (2+1)=gY a b c 2+gX c from BQ)
   obtain⟨n0,hn0⟩:∃n0,n0=gY a b c 2:=⟨_,rfl⟩
   have hn9:n0<=189:=Ue
   rw[<-hn0] at HS|-
   clear hn0
   try rw[show((2:Nat):Int)=2 from rfl]
   have hdec:decide ((2:Int)<3)=true:=rfl
   go_wp2
   go_loop [3,6] (fun nv kv=> ∃(j N:Nat),j<=63/\kv=.int .u64 j/\nv=.int .i64 (N:Nat)/\Hid (N=n0+iq c.toNat j)/\Hid (0<j->0<c)) (fun _ kv=>63-(intOf kv).toNat)
   case atStart=>exact⟨0,n0,ah,rfl,rfl,hid rfl,hid (fun h=>ah)⟩
   case round=>
    obtain⟨j,N,hj,rfl,rfl,HN,HJ⟩:=hrel
    have hxr:=HC.out
    by_cases hpos:0<c
    ·have d0:decide (0<c)=true:=BI
     by_cases hj63:j<63
     ·have d1:decide ((j:Int)<63)=true:=aJ
      have j0:(0:Int)<=j:=ah
      have j64:(j:Int)<64:=ah
      have hle:iq c.toNat j<=63:=gJ (Ii _ _) hj
      have hn:N<=300:=jo
      obtain⟨q,hq⟩:∃q:Nat,q=c.toNat/2^j:=⟨_,rfl⟩
      have hq2:c/2^j=(q:Nat):=by
       rw[hq]
       obtain⟨X,hX⟩:∃X:Nat,c=X:=⟨c.toNat,ah⟩
       rw[hX]
       simp
      have HE:=hid (show iq c.toNat (j+1)=iq c.toNat j+q%2 from by rw[hq];rfl)
      exact l63
     obtain rfl:j=63:=ah
     have d1:decide (((63:Nat):Int)<63)=false:=rfl
     have hE:N=gY a b c (2+1):=by rw[HN.out,HS.out];rfl
     try rw[show((63:Nat):Int)=63 from rfl]
     go_wp2
     refine⟨⟨2+1,ah,rfl,by rw[hE]⟩,?_⟩
     simp[intOf]
    obtain rfl:j=0:=by
     exact Va
    have d0:decide (0<c)=false:=BI
    have hE:N=gY a b c (2+1):=by
     rw[HN.out,HS.out]
     unfold gX
     rw[Ih c.toNat (j:=0) (m:=63) (by rw[show c.toNat=0 from ah]) ah]
    go_wp2
    refine⟨⟨2+1,ah,rfl,by rw[hE]⟩,?_⟩
    simp[intOf]
  obtain rfl:k=3:=ah
  have hp3:gY a b c 3=gX a+gX b+gX c:=rfl
  rw[hp3]
  generalize gX a+gX b+gX c=m at*
  go_wp2
  go_ret
  exact⟨by rw[HP.out];rfl,B0.out⟩
def foB(r l:List Int):Bool:=aG r&&aG l
def kz(r l:List Int):Int:=if r.length=l.length/\l.length<=80 then aZ (foB r l) else 1
def foT(r l:List Int)(n i:Nat):Int:=r.getD i 0*l.getD (n-i) 0
def foE(r l:List Int)(n:Nat):Int:=s16 ((2048+aI (foT r l n) (n+1))/4096)
def foL(r l:List Int):List Int:=if kz r l=0 then(List.range l.length).map (foE r l) else[]
theorem YH{r l:List Int}(h: ¬(r.length=l.length/\l.length<=80)):kz r l=1:=by unfold kz;rw[if_neg h]
theorem QS{r l:List Int}(h1:r.length=l.length)(h2:l.length<=80):kz r l=aZ (foB r l):=by unfold kz;rw[if_pos ⟨h1,h2⟩]
theorem DI{r l:List Int}(h:kz r l≠0):foL r l=[]:=by unfold foL;rw[if_neg h]
theorem DJ{r l:List Int}(h:kz r l=0):foL r l=(List.range l.length).map (foE r l):=by unfold foL;rw[if_pos h]
theorem agV(A A2:Option Addr)(c c2 n1 n2:Nat)(r l:List Int)(w:World)(hr:Rs w w.heap.size A r)(hl:Rs w w.heap.size A2 l)(lr:r.length=n1)(ll:l.length=n2)(wr':W64 r)(wl:W64 l):
 Calls Tryz.prog 94 #[.slice A n1 c,.slice A2 n2 c2] w (NewSE w (foL r l) (kz r l)):=by
 by_cases hn1:n1=n2
 rotate_left
 ·have FIN:=hid (fun w' (hB:Below w.heap.size w w')=>show NewSE w (foL r l) (kz r l) (.returned (.tuple #[.slice none 0 0,.int .i64 1])) w' from OO)
  have d0:((n1:Int) !=n2)=true:=aJ
  have d1: ¬(n1:Int)=n2:=ah
  clear hn1 hr hl lr ll wr' wl
  go_enter Tryz.func94,Tryz.ntmps94
  exact l36
 subst hn1
 by_cases hn2:80<n1
 ·have FIN:=hid (fun w' (hB:Below w.heap.size w w')=>show NewSE w (foL r l) (kz r l) (.returned (.tuple #[.slice none 0 0,.int .i64 1])) w' from OO)
  have d1:(80:Int)<n1:=ah
  clear hn2 hr hl lr ll wr' wl
  go_enter Tryz.func94,Tryz.ntmps94
  exact l36
 have hN:n1<=80:=ah
 have hE:=QS (r:=r) (l:=l) ah ah
 have FBAD:=hid (fun w' (hb:foB r l=false) (hB:Below w.heap.size w w')=>show NewSE w (foL r l) (kz r l) (.returned (.tuple #[.slice none 0 0,.int .i64 2])) w' from by rw[DI Og,hE,hb];exact NewSE.none_ hB)
 have FGOOD:=hid (fun w' A3 c3 (hb:foB r l=true) (hO:Own w' w.heap.size A3 c3 ((List.range n1).map (foE r l))) (hB:Below w.heap.size w w')=>show NewSE w (foL r l) (kz r l) (.returned (.tuple #[.slice A3 n1 c3,.int .i64 0])) w' from⟨A3,c3,by rw[DJ zo,hE,hb,ll];simp;rfl,by rw[DJ zo,ll];exact hO,hB⟩)
 have HR:=hid hr
 have HL:=hid hl
 have LR:=hid lr
 have LL:=hid ll
 have WR:=hid wr'
 have WL:=hid wl
 have d2: ¬(80:Int)<n1:=ah
 clear hE hn2 hr hl lr ll wr' wl
 go_enter Tryz.func94,Tryz.ntmps94
 go_wp2
 go_loopw[6,22] (fun ov iv wr=> ∃(n:Nat) (Ao:Option Addr) (co:Nat),n<=n1/\iv=.int .i64 n/\ov=.slice Ao n co/\Hid (allTo gV r n/\allTo gV l n)/\Hid (Own wr w.heap.size Ao co ((List.range n).map (foE r l)))/\Hid (Below w.heap.size w wr)) (fun _ iv _=>n1-(intOf iv).toNat)
 case atStart=>exact⟨0,none,0,ah,rfl,rfl,hid ⟨allTo.zero,allTo.zero⟩,hid Own.nil,hid (aA _ _)⟩
 case round=>
  obtain⟨n,Ao,co,hn,rfl,rfl,HA,HO,HB⟩:=hrel
  obtain⟨wo,rfl⟩:∃wo:World,wo=wr:=⟨_,rfl⟩
  by_cases hlt:n<n1
  ·go_wp2
   go_loopw[8,9] (fun av iv wr=> ∃(k:Nat) (s:Int),k<=n+1/\iv=.int .i64 k/\av=.int .i64 s/\Hid (s=2048+aI (foT r l n) k)/\Hid (∀i,i<k->gV (r.getD i 0)=true/\gV (l.getD (n-i) 0)=true)/\(-1073741824*(k:Int)<=s-2048/\s-2048<=1073741824*(k:Int))/\Hid (Own wr w.heap.size Ao co ((List.range n).map (foE r l)))/\Hid (Below w.heap.size w wr)) (fun _ iv _=>n+1-(intOf iv).toNat)
   case atStart=>exact⟨0,2048,ah,rfl,rfl,hid rfl,hid (fun i h=>ah),ah,HO,HB⟩
   case round=>
    clear HO HB
    obtain⟨k,s,hk,rfl,rfl,HS,HK,⟨sb1,sb2⟩,HO,HB⟩:=hrel
    by_cases hlk:k<n+1
    ·obtain⟨ad,rfl,hadb,c0⟩:=(HR.out.below HB.out).at_ (k:=k) (by rw[LR.out];omega)
     obtain⟨ae,rfl,haeb,c1⟩:=(HL.out.below HB.out).at_ (k:=n-k) (by rw[LL.out];omega)
     have x64:=WR.out.at_ k
     have y64:=WL.out.at_ (n-k)
     have ST:=hid (show 2048+aI (foT r l n) (k+1)=s+r.getD k 0*l.getD (n-k) 0 by rw[HS.out];simp only[aI];unfold foT;omega)
     have HK2:=hid (fun(h1:gV (r.getD k 0)=true) (h2:gV (l.getD (n-k) 0)=true)=>show∀i,i<k+1->gV (r.getD i 0)=true/\gV (l.getD (n-i) 0)=true from fun i hi=>by
      by_cases e:i=k
      ·subst e;exact⟨h1,h2⟩
      ·exact HK.out i ah)
     have BX:=hid (fun(h:gV (r.getD k 0)=false)=>show foB r l=false by unfold foB;rw[show aG r=false from iL (i:=k) (by rw[LR.out];omega) h];rfl)
     have BY:=hid (fun(h:gV (l.getD (n-k) 0)=false)=>show foB r l=false by unfold foB;rw[show aG l=false from iL (i:=n-k) (by rw[LL.out];omega) h];simp)
     generalize r.getD k 0=x at*
     generalize l.getD (n-k) 0=y at*
     obtain⟨m,hm⟩:∃m,m=n-k:=⟨_,rfl⟩
     rw[<-hm] at c1
     have hw0:IntKind.i64.wrap ((n:Int)-(k:Nat))=(m:Nat):=aN
     have i1:(m:Int)<n1:=ah
     have i2:(0:Int)<=m:=ah
     have i3:(k:Int)<n1:=ah
     have i4:(0:Int)<=k:=ah
     have i5:(k:Int)<=n:=ah
     have KX:Hid (∀W,Calls Tryz.prog 156 #[.int .i64 x] W fun e w'=>e=.returned (.int .i64 (s16 x))/\w'=W):=hid (fun W=>(xY x W).mono fun _ _ h=>⟨h.1,h.2.symm⟩)
     have KY:Hid (∀W,Calls Tryz.prog 156 #[.int .i64 y] W fun e w'=>e=.returned (.int .i64 (s16 y))/\w'=W):=hid (fun W=>(xY y W).mono fun _ _ h=>⟨h.1,h.2.symm⟩)
     have HM:=hid hm
     clear hm
     by_cases hx:x< -32768\/32767<x
     ·have e1:(x==s16 x)=false:=abw
      have e2:(x !=s16 x)=true:=by rw[bne_iff_ne];exact fun h=>rN hx h.symm
      have FB:=hid (BX.out (rL hx))
      clear hx x64 y64
      exact l80
     by_cases hy:y< -32768\/32767<y
     ·have e1:(y==s16 y)=false:=abx
      have e2:(y !=s16 y)=true:=by rw[bne_iff_ne];exact fun h=>rN hy h.symm
      have FB:=hid (BY.out (rL hy))
      have e3:=kH (x:=x) ah ah
      rw[e3] at KX
      clear hx hy x64 y64 e3
      exact l80
     have e3:=kH (x:=x) ah ah
     have e4:=kH (x:=y) ah ah
     rw[e3] at KX
     rw[e4] at KY
     have HK3:=hid (HK2.out (qI ah ah) (qI ah ah))
     obtain⟨p1,p2⟩:=kU (x:=x) (y:=y) ah ah ah ah
     have hw2:IntKind.i64.wrap (x*y)=x*y:=aN
     have hw3:IntKind.i64.wrap (s+x*y)=s+x*y:=aN
     have sb3: -1073741824*((k+1:Nat):Int)<=s+x*y-2048/\s+x*y-2048<=1073741824*((k+1:Nat):Int):=by push_cast;omega
     have SB3:=hid sb3
     clear hx hy x64 y64 e3 e4 sb3 sb1 sb2
     go_wp2
     go_quiet ((go_at_call 156;first|(with_reducible exact Calls.quiet_of_same (KX.out _))|(with_reducible exact Calls.quiet_of_same (KY.out _))))
     go_wp2
     go_quiet (fail)
     clear hw0 hw2 hw3
     go_wp2
     go_roundw
     case rel=>exact⟨k+1,_,ah,aO,rfl,hid ST.out.symm,HK3,SB3.out,hid (HO.out.drewN _),hid (HB.out.trans ((iJ _ _).mono HB.out.size))⟩
     case measure=>simp[intOf]<;>omega
    obtain rfl:k=n+1:=ah
    have HN:=hid (show allTo gV r (n+1)/\allTo gV l (n+1) from⟨fun j hj=>(HK.out j hj).1,fun j hj=>by have:=(HK.out (n-j) ah).2;rwa [show n-(n-j)=j from ah] at this⟩)
    have HV:=hid (show foE r l n=s16 (s/4096) by unfold foE;rw[HS.out])
    have KS:=hid (fun W=>xY (s/4096) W)
    obtain⟨v,hv⟩:∃v,v=s16 (s/4096):=⟨_,rfl⟩
    rw[<-hv] at KS HV
    clear hv sb1 sb2 hlk
    go_wp2_with(first
     |(go_at_call 156;(with_reducible refine(KS.out _).mono ?_);rintro e w' ⟨rfl,rfl⟩)
     |(at_builtin;refine vP rfl (.tmp 69) (.tmp 73) rfl w.heap.size Ao co n ((List.range n).map (foE r l)) rfl az (HO.out.alloc _) ⟨wr.heap.size,0,none⟩ v rfl (mW wr _ _) ah (gJ HB.out.size az) ?_;intro A5 c5 w5 hO hG hA;have O5:=hid hO;have G5:=hid hG;clear hO hG hA))
    have N1:=hid (show Own w5 w.heap.size A5 c5 ((List.range (n+1)).map (foE r l)) by rw[<-CP,HV.out];exact O5.out)
    have N4:=hid (uB (HB.out.alloc HB.out.size _) (HO.out.alloc _) G5.out (gJ HB.out.size az))
    go_wp2
    go_roundw
    case rel=>exact⟨n+1,A5,c5,ah,aO,rfl,HN,N1,N4⟩
    case measure=>simp[intOf]<;>omega
  obtain rfl:n=n1:=ah
  have FG:=hid (FGOOD.out wo Ao co (by unfold foB;rw[show aG r=true from HA.out.1.all (by rw[LR.out];exact al0z _),show aG l=true from HA.out.2.all (by rw[LL.out];exact al0z _)];rfl) HO.out HB.out)
  go_wp2
  go_ret2
  exact FG.out
def fdT(r l:List Int)(j i:Nat):Int:=if i<=j then l.getD i 0*r.getD (j-i) 0 else 0
def fdS(r l:List Int)(j i:Nat):Int:=aI (fdT r l j) i
def jf(r l:List Int)(n i k:Nat):List Int:=(List.range n).map (fun j=>fdS r l j i+if i<=j/\j<i+k then l.getD i 0*r.getD (j-i) 0 else 0)
theorem oH(r l:List Int)(n i k:Nat):(jf r l n i k).length=n:=by simp[jf]
theorem agW(r l:List Int){n i k:Nat}(h:i+k<n):(jf r l n i k).getD (i+k) 0=fdS r l (i+k) i:=by
 unfold jf
 rw[aT _ h,if_neg ah]
 omega
theorem agX(r l:List Int){n i k:Nat}(h:i+k<n):(jf r l n i k).set (i+k) (fdS r l (i+k) i+l.getD i 0*r.getD k 0)=jf r l n i (k+1):=by
 refine bV (by simp[oH]) fun j hj=>?_
 rw[List.length_set,oH] at hj
 by_cases e:i+k=j
 ·subst e
  rw[gQ _ _ _ (by rw[oH];exact hj)]
  unfold jf
  rw[aT _ hj,if_pos ah,show i+k-i=k from ah]
 rw[iw _ _ e]
 unfold jf
 rw[aT _ hj,aT _ hj]
 by_cases h2:i<=j/\j<i+k
 ·rw[if_pos h2,if_pos ah]
 rw[if_neg h2,if_neg ah]
theorem agY(r l:List Int){n i k:Nat}(h:n<=i+k):jf r l n i (k+1)=jf r l n i k:=by
 refine bV (by simp[oH]) fun j hj=>?_
 rw[oH] at hj
 unfold jf
 rw[aT _ hj,aT _ hj]
 by_cases h2:i<=j/\j<i+k
 ·rw[if_pos h2,if_pos ah]
 rw[if_neg h2,if_neg ah]
theorem agZ(r l:List Int)(n i:Nat):jf r l n i n=jf r l n (i+1) 0:=by
 refine bV (by simp[oH]) fun j hj=>?_
 rw[oH] at hj
 unfold jf
 rw[aT _ hj,aT _ hj,if_neg (show¬(i+1<=j/\j<i+1+0) from ah)]
 unfold fdS
 simp only[aI]
 unfold fdT
 by_cases h:i<=j
 ·rw[if_pos ah,if_pos h];omega
 rw[if_neg ah,if_neg h];simp
theorem ag0(r l:List Int)(n:Nat):jf r l n 0 0=List.replicate n 0:=by
 refine bV (by simp[oH]) fun j hj=>?_
 rw[oH] at hj
 rw[zI]
 unfold jf
 rw[aT _ hj,if_neg ah]
 rfl
theorem YI{r l:List Int}(hr:eG r)(hl:eG l)(j i:Nat): -(1073741824*(i:Int))<=fdS r l j i/\fdS r l j i<=1073741824*(i:Int):=by
 unfold fdS
 induction i with
 |zero=>simp[aI]
 |succ i ih=>
  simp only[aI]
  have hp:=kU (hl i).1 (hl i).2 (hr (j-i)).1 (hr (j-i)).2
  have ht: -1073741824<=fdT r l j i/\fdT r l j i<=1073741824:=by unfold fdT;split<;>omega
  push_cast
  omega
theorem ag1(r l:List Int){n j:Nat}(h:j<n):fdS r l j n=aI (foT r l j) (j+1):=by
 unfold fdS
 obtain⟨d,rfl⟩:∃d,n=(j+1)+d:=⟨n-(j+1),ah⟩
 rw[aeO]
 have h0:aI (fun i=>fdT r l j (j+1+i)) d=0:=by
  rw[lL d (g:=fun _=>0) (fun i _=>by unfold fdT;rw[if_neg ah])]
  exact Qb d
 rw[h0,Int.add_zero,aeN]
 refine lL (j+1) fun i hi=>?_
 show fdT r l j (j+1-1-i)=foT r l j i
 unfold fdT foT
 rw[if_pos ah,show j+1-1-i=j-i from ah,show j-(j-i)=i from ah,Int.mul_comm]
def fdM(r l:List Int)(n m:Nat):List Int:=(List.range n).map (fun j=>if j<m then foE r l j else fdS r l j n)
theorem uJ(r l:List Int)(n m:Nat):(fdM r l n m).length=n:=by simp[fdM]
theorem ag2(r l:List Int)(n:Nat):jf r l n n 0=fdM r l n 0:=by
 refine bV (by simp[oH,uJ]) fun j hj=>?_
 rw[oH] at hj
 unfold jf fdM
 rw[aT _ hj,aT _ hj,if_neg ah,if_neg ah]
 omega
theorem ag3(r l:List Int){n m:Nat}(h:m<n):(fdM r l n m).getD m 0=fdS r l m n:=by
 unfold fdM;rw[aT _ h,if_neg ah]
theorem ag4(r l:List Int){n m:Nat}(h:m<n):(fdM r l n m).set m (s16 ((fdS r l m n+2048)/4096))=fdM r l n (m+1):=by
 refine bV (by simp[uJ]) fun j hj=>?_
 rw[List.length_set,uJ] at hj
 by_cases e:m=j
 ·subst e
  rw[gQ _ _ _ (by rw[uJ];exact hj)]
  unfold fdM
  rw[aT _ hj,if_pos ah]
  unfold foE
  rw[ag1 r l hj,Int.add_comm]
 rw[iw _ _ e]
 unfold fdM
 rw[aT _ hj,aT _ hj]
 by_cases h2:j<m
 ·rw[if_pos h2,if_pos ah]
 rw[if_neg h2,if_neg ah]
theorem ag5(r l:List Int)(n:Nat):fdM r l n n=(List.range n).map (foE r l):=by
 refine bV (by simp[uJ]) fun j hj=>?_
 rw[uJ] at hj
 unfold fdM
 rw[aT _ hj,aT _ hj,if_pos hj]
theorem ag6(A A2:Option Addr)(c c2 n1 n2:Nat)(r l:List Int)(w:World)(hr:Rs w w.heap.size A r)(hl:Rs w w.heap.size A2 l)(lr:r.length=n1)(ll:l.length=n2)(l1:n1<=17592186044416)(l2:n2<=17592186044416):
 Calls Tryz.prog 123 #[.slice A n1 c,.slice A2 n2 c2] w (NewSE w (foL r l) (kz r l)):=by
 by_cases hn1:n1=n2
 rotate_left
 ·have FIN:=hid (fun w' (hB:Below w.heap.size w w')=>show NewSE w (foL r l) (kz r l) (.returned (.tuple #[.slice none 0 0,.int .i64 1])) w' from OO)
  have d0:((n1:Int) !=n2)=true:=aJ
  have d1: ¬(n1:Int)=n2:=ah
  clear hn1 hr hl lr ll
  go_enter Tryz.func123,Tryz.ntmps123
  exact l36
 subst hn1
 by_cases hn2:80<n1
 ·have FIN:=hid (fun w' (hB:Below w.heap.size w w')=>show NewSE w (foL r l) (kz r l) (.returned (.tuple #[.slice none 0 0,.int .i64 1])) w' from OO)
  have d1:(80:Int)<n1:=ah
  clear hn2 hr hl lr ll
  go_enter Tryz.func123,Tryz.ntmps123
  exact l36
 have hN:n1<=80:=ah
 have hE:=QS (r:=r) (l:=l) ah ah
 have FBAD:=hid (fun w' (hb:foB r l=false) (hB:Below w.heap.size w w')=>show NewSE w (foL r l) (kz r l) (.returned (.tuple #[.slice none 0 0,.int .i64 2])) w' from by rw[DI Og,hE,hb];exact NewSE.none_ hB)
 have FGOOD:=hid (fun w' A3 c3 (hb:foB r l=true) (hO:Own w' w.heap.size A3 c3 ((List.range n1).map (foE r l))) (hB:Below w.heap.size w w')=>show NewSE w (foL r l) (kz r l) (.returned (.tuple #[.slice A3 n1 c3,.int .i64 0])) w' from⟨A3,c3,by rw[DJ zo,hE,hb,ll];simp;rfl,by rw[DJ zo,ll];exact hO,hB⟩)
 have HR:=hid hr
 have HL:=hid hl
 have LR:=hid lr
 have LL:=hid ll
 have d2: ¬(80:Int)<n1:=ah
 have K1:=hid (kJ A c n1 w.heap.size r w hr lr l1)
 have K2:=hid (kJ A2 c2 n1 w.heap.size l w hl ll l2)
 clear hE hn2 hr hl lr ll
 by_cases gr:aG r=true
 rotate_left
 ·have FB:=hid (FBAD.out w (by unfold foB;simp[gr]) (aA _ _))
  have gf:aG r=false:=by simpa using gr
  rw[gf] at K1
  clear gr gf
  go_enter Tryz.func123,Tryz.ntmps123
  go_wp2_with fail
  refine K1.out.mono ?_
  rintro e w1 ⟨rfl,rfl⟩
  go_wp2
  go_ret2
  exact FB.out
 by_cases gl:aG l=true
 rotate_left
 ·have FB:=hid (FBAD.out w (by unfold foB;simp[gl]) (aA _ _))
  have gf:aG l=false:=by simpa using gl
  rw[gr] at K1
  rw[gf] at K2
  clear gr gl gf
  go_enter Tryz.func123,Tryz.ntmps123
  go_wp2_with fail
  refine K1.out.mono ?_
  rintro e w1 ⟨rfl,rfl⟩
  go_wp2_with fail
  refine K2.out.mono ?_
  rintro e w1 ⟨rfl,rfl⟩
  go_wp2
  go_ret2
  exact FB.out
 have hb:foB r l=true:=by unfold foB;rw[gr,gl];rfl
 have HBB:=hid hb
 have GR:=hid (fQ gr)
 have GL:=hid (fQ gl)
 rw[gr] at K1
 rw[gl] at K2
 clear hb gr gl FBAD
 go_enter Tryz.func123,Tryz.ntmps123
 go_wp2_with fail
 refine K1.out.mono ?_
 rintro e w1 ⟨rfl,rfl⟩
 go_wp2_with fail
 refine K2.out.mono ?_
 rintro e w1 ⟨rfl,rfl⟩
 go_wp2_with(at_make;refine kR rfl _ _ rfl .i64 .i64 n1 rfl rfl w.heap.size ah (al0z _) ?_;intro w1 hO hG;have O1:=hid (show Own w1 w.heap.size (some ⟨w.heap.size,0,none⟩) n1 (jf r l n1 0 0) by rw[ag0];exact hO);have B1:=hid ((aA w.heap.size w).grown hG (al0z _) az);clear hO hG)
 go_loopw[35] (fun iv wr=> ∃i:Nat,i<=n1/\iv=.int .i64 i/\Hid (Own wr w.heap.size (some ⟨w.heap.size,0,none⟩) n1 (jf r l n1 i 0))/\Hid (Below w.heap.size w wr)) (fun iv _=>n1-(intOf iv).toNat)
 case atStart=>exact⟨0,ah,rfl,O1,B1⟩
 case round=>
  clear O1 B1
  obtain⟨i,hi,rfl,HO,HB⟩:=hrel
  obtain⟨wo,rfl⟩:∃wo:World,wo=wr:=⟨_,rfl⟩
  by_cases hlt:i<n1
  ·obtain⟨al,rfl,halb,cl⟩:=(HL.out.below HB.out).at_ (k:=i) (by rw[LL.out];exact hlt)
   obtain⟨x,hx⟩:∃x,x=l.getD i 0:=⟨_,rfl⟩
   rw[<-hx] at cl
   have x16:=GL.out i
   rw[<-hx] at x16
   have HX:=hid hx
   clear hx
   go_wp2
   go_loopw[42] (fun iv wr=> ∃k:Nat,k<=n1/\iv=.int .i64 k/\Hid (Own wr w.heap.size (some ⟨w.heap.size,0,none⟩) n1 (jf r l n1 i k))/\Hid (Below w.heap.size w wr)) (fun iv _=>n1-(intOf iv).toNat)
   case atStart=>exact⟨0,ah,rfl,HO,HB⟩
   case round=>
    clear HO HB cl
    obtain⟨k,hk,rfl,HO,HB⟩:=hrel
    by_cases hlk:k<n1
    ·obtain⟨ad,rfl,hadb,c0⟩:=(HR.out.below HB.out).at_ (k:=k) (by rw[LR.out];exact hlk)
     have y16:=GR.out k
     obtain⟨p1,p2⟩:=kU x16.1 x16.2 y16.1 y16.2
     by_cases hin:i+k<n1
     ·have co:=HO.out.cell (i+k) (by rw[oH];exact hin)
      rw[agW r l hin] at co
      have fo:=HO.out.frozen (i+k)
      have sr:=YI GR.out GL.out (i+k) i
      have HSet:=hid (agX r l hin)
      rw[<-HX.out] at HSet
      generalize r.getD k 0=y at*
      generalize fdS r l (i+k) i=s at*
      have s1: -1073741824000<=s:=ah
      have s2:s<=1073741824000:=ah
      obtain⟨j,hj⟩:∃j,j=i+k:=⟨_,rfl⟩
      rw[<-hj] at co fo HSet hin
      have hsum:(i:Int)+(k:Nat)=(j:Nat):=ah
      have hltI:(j:Int)<n1:=ah
      have hj0:(0:Int)<=j:=ah
      have NO:=hid (show Own (wr.setCell ⟨w.heap.size,j,none⟩ (.int .i64 (s+x*y))) w.heap.size (some ⟨w.heap.size,0,none⟩) n1 (jf r l n1 i (k+1)) from by rw[<-HSet.out];exact HO.out.set_ j (by rw[oH];exact hin) (s+x*y))
      have NB:=hid (HB.out.setCell (p:=⟨w.heap.size,j,none⟩) (al0z _) (.int .i64 (s+x*y)))
      have HJ:=hid hj
      clear sr hj
      go_wp2
      go_roundw
      case rel=>exact⟨k+1,ah,aO,NO,NB⟩
      case measure=>simp[intOf]<;>omega
     have hltI: ¬(i:Int)+(k:Nat)<n1:=ah
     have NO:=hid (show Own wr w.heap.size (some ⟨w.heap.size,0,none⟩) n1 (jf r l n1 i (k+1)) from by rw[agY r l ah];exact HO.out)
     generalize r.getD k 0=y at*
     clear hin
     go_wp2
     go_roundw
     case rel=>exact⟨k+1,ah,aO,NO,HB⟩
     case measure=>simp[intOf]<;>omega
    obtain rfl:k=n1:=ah
    have NO:=hid (show Own wr w.heap.size (some ⟨w.heap.size,0,none⟩) k (jf r l k (i+1) 0) by rw[<-agZ];exact HO.out)
    go_wp2
    go_roundw
    case rel=>exact⟨i+1,ah,aO,NO,HB⟩
    case measure=>simp[intOf]<;>omega
  obtain rfl:i=n1:=ah
  have O2:=hid (show Own wo w.heap.size (some ⟨w.heap.size,0,none⟩) i (fdM r l i 0) by rw[<-ag2];exact HO.out)
  clear HO hlt
  go_wp2
  go_loopw[68] (fun iv wr=> ∃m:Nat,m<=i/\iv=.int .i64 m/\Hid (Own wr w.heap.size (some ⟨w.heap.size,0,none⟩) i (fdM r l i m))/\Hid (Below w.heap.size w wr)) (fun iv _=>i-(intOf iv).toNat)
  case atStart=>exact⟨0,ah,rfl,O2,HB⟩
  case round=>
   clear O2 HB
   obtain⟨m,hm,rfl,HO,HB⟩:=hrel
   by_cases hlm:m<i
   ·have co:=HO.out.cell m (by rw[uJ];exact hlm)
    rw[ag3 r l hlm] at co
    have sr:=YI GR.out GL.out m i
    have HSet:=hid (ag4 r l hlm)
    generalize fdS r l m i=s at*
    have s1: -1073741824000<=s:=ah
    have s2:s<=1073741824000:=ah
    clear sr
    go_wp2_with fail
    refine(F5 (s+2048) wr ah ah).mono ?_
    rintro e w3 ⟨rfl,hB⟩
    have O3:=hid (HO.out.below hB)
    have B3:=hid (HB.out.trans (hB.mono HB.out.size))
    clear hB HO HB co
    go_wp2_with fail
    refine(qH ((s+2048)/4096) w3 ah ah).mono ?_
    rintro e w4 ⟨rfl,hB⟩
    have O4:=hid (O3.out.below hB)
    have B4:=hid (B3.out.trans (hB.mono B3.out.size))
    clear hB
    have co:=O4.out.cell m (by rw[uJ];exact hlm)
    have fo:=O4.out.frozen m
    have NO:=hid (show Own (w4.setCell ⟨w.heap.size,m,none⟩ (.int .i64 (s16 ((s+2048)/4096)))) w.heap.size (some ⟨w.heap.size,0,none⟩) i (fdM r l i (m+1)) from by rw[<-HSet.out];exact O4.out.set_ m (by rw[uJ];exact hlm) _)
    have NB:=hid (B4.out.setCell (p:=⟨w.heap.size,m,none⟩) (al0z _) (.int .i64 (s16 ((s+2048)/4096))))
    generalize s16 ((s+2048)/4096)=v at*
    go_wp2
    go_roundw
    case rel=>exact⟨m+1,ah,aO,NO,NB⟩
    case measure=>simp[intOf]<;>omega
   obtain rfl:m=i:=ah
   have FG:=hid (FGOOD.out wr _ _ HBB.out (by rw[<-ag5];exact HO.out) HB.out)
   go_wp2
   go_ret2
   exact FG.out
theorem nG{z:Int}(h1: -9223372036854775808<=z)(h2:z<=9223372036854775807):Sm z.natAbs:=aW ah
theorem ahk{k:Nat}(h:k<15):(0:Int)<2^(14-k)/\(2:Int)^(14-k)<=16384:=by
 have:∀j,j<15->(0:Int)<2^(14-j)/\(2:Int)^(14-j)<=16384:=aB
 exact this k h
def Jd(w:World)(n f:Int)(e:Ending)(w':World):Prop:=e=.returned (.tuple #[.int .i64 (jS n f),.int .i64 (aZ (oW n f))])/\Below w.heap.size w w'
theorem ahl(n f:Int)(w:World)(T:TabS w 5 iy)(n1:0<=n)(n2:n<=30)(f1:0<=f)(f2:f<=32767):
 Calls Tryz.prog 183 #[.int .i64 n,.int .i64 f] w fun e w'=>e=.returned (.tuple #[.int .i64 (jS n f),.int .i64 0])/\Below w.heap.size w w':=by
 have d1: ¬n<0:=ah
 have d2: ¬30<n:=ah
 have d3: ¬f<0:=ah
 have d4: ¬32767<f:=ah
 have TT:=hid T
 clear T
 go_enter Tryz.func183,Tryz.ntmps183
 go_wp2_with fail
 refine(kP _ 1073741824 ah ah).mono ?_
 rintro e w1 ⟨bx,rfl,hb1,hI1,hB1⟩
 have I1:=hid hI1
 have B1:=hid hB1
 clear hI1 hB1
 go_wp2
 go_loopw[7] (fun iv wr=> ∃(k:Nat) (x:Int),k<=15/\iv=.int .i64 k/\Hid (x=iU f k)/\Hid (IntAt wr bx x)/\Hid (Below w.heap.size w wr)) (fun iv _=>15-(intOf iv).toNat)
 case atStart=>exact⟨0,1073741824,ah,rfl,hid rfl,I1,B1⟩
 case round=>
  clear I1 B1
  obtain⟨k,x,hk,rfl,HX,HI,HB⟩:=hrel
  by_cases hlt:k<15
  ·have x1:1073741824<=x:=by rw[HX.out];exact Dl f k
   have x2:x<=2147483648:=Oy
   have r1:=Dh k
   have r2:=Xd k
   have HR:=hid (show iU f (k+1)=if Gx f k then x+x*kw k/1073741824 else x by rw[iU,<-HX.out])
   obtain⟨g1,g2⟩:=ahk hlt
   have g3: ¬(2:Int)^(14-k)=0:=ah
   have g4:0<=f/2^(14-k):=Int.ediv_nonneg f1 ah
   by_cases hb:f/2^(14-k)%2=1
   ·have e1:(f/2^(14-k)%2==1)=true:=by rw[hb];rfl
    have HR2:=hid (show iU f (k+1)=x+x*kw k/1073741824 by rw[HR.out,if_pos MF])
    clear hb HR
    obtain⟨A,c,h0,hlen,hc⟩:=(TT.out.below' (HB.out.alloc HB.out.size (.cells #[.bool false,.slice none 0 0] 80)) (al0z _)).form
    obtain⟨ad,rfl,hc⟩:=hc k hlt
    have h0:(wr.alloc (.cells #[.bool false,.slice none 0 0] 80)).cell? ⟨5,0,none⟩=some (.slice (some ad) 15 c):=h0
    unfold kw at r1 r2 HR2
    generalize iy.getD k 0=r at*
    obtain⟨q1,q2,q3,q4⟩:=Xe x1 x2 r1 r2
    have HQ:=hid (And.intro q1 (And.intro q2 (And.intro q3 q4)))
    clear hlen q1 q2 q3 q4
    go_wp2_with fail
    refine(fJ _ r ah ah).mono ?_
    rintro e w2 ⟨b2,rfl,hb2,hI2,hB2⟩
    have P2:=hid (IntBlk.below (IntBlk.new wr (.bool false) (.slice none 0 0)) hB2 (al0z _))
    have X2:=hid ((HI.out.below ((aA _ _).alloc (al0z _) _) (al0z _)).below hB2 (al0z _))
    have I2:=hid hI2
    have B2:=hid ((HB.out.alloc HB.out.size _).trans (hB2.mono (by have:=HB.out.size;simp;omega)))
    have hxlt:=HI.out.lt
    have hws:=HB.out.size
    clear hI2 hB2 hc h0
    go_wp2_with fail
    refine(iK w2 wr.heap.size bx b2 x r P2.out X2.out I2.out (nG ah ah) (nG ah ah)).mono ?_
    rintro e w3 ⟨rfl,hI3,hG3⟩
    have P3:=hid hI3
    have X3:=hid (X2.out.kept P2.out hG3 ah)
    have B3:=hid (bK B2.out hG3 ah)
    clear hI3 hG3
    go_wp2_with fail
    refine(FT w3 wr.heap.size wr.heap.size (x*r) 30 P3.out.blk P3.out (nG NP NP) ah).mono ?_
    rintro e w4 ⟨rfl,hI4,hG4⟩
    rw[show(2:Int)^30=1073741824 from aB] at hI4
    have P4:=hid hI4
    have X4:=hid (X3.out.kept P3.out.blk hG4 ah)
    have B4:=hid (bK B3.out hG4 ah)
    clear hI4 hG4
    go_wp2_with fail
    refine(rK w4 bx bx wr.heap.size x (x*r/1073741824) X4.out.blk X4.out P4.out (nG ah ah) (nG NP NP)).mono ?_
    rintro e w5 ⟨rfl,hI5,hG5⟩
    have X5:=hid hI5
    have B5:=hid (bK B4.out hG5 hb1)
    clear hI5 hG5
    go_wp2
    go_roundw
    case rel=>exact⟨k+1,_,ah,aO,hid HR2.out.symm,X5,B5⟩
    case measure=>simp[intOf]<;>omega
   have e1:(f/2^(14-k)%2==1)=false:=Fh
   have HR2:=hid (show iU f (k+1)=x by rw[HR.out,if_neg MF])
   clear hb HR
   go_wp2
   go_roundw
   case rel=>exact⟨k+1,_,ah,aO,hid HR2.out.symm,HI,HB⟩
   case measure=>simp[intOf]<;>omega
  obtain rfl:k=15:=ah
  obtain⟨m,rfl⟩:=dP n1
  have x1:1073741824<=x:=by rw[HX.out];exact Dl f 15
  have x2:x<=2147483648:=Oy
  have HV:=hid (show jS (m:Nat) f=(if 2147483647<=x/2^(30-m) then 2147483647 else x/2^(30-m)) by
   unfold jS
   rw[if_pos (by unfold oW;simp;omega),<-HX.out,show((30:Int)-(m:Nat)).toNat=30-m from ah])
  have hp0:(0:Int)<2^(30-m):=Int.pow_pos aB
  have y1:0<=x/2^(30-m):=Int.ediv_nonneg ah ah
  have y2:x/2^(30-m)<=2147483648:=Int.le_trans (Int.ediv_le_self _ ah) x2
  clear HX hlt hp0
  go_wp2_with fail
  rw[show(30:Int)-(m:Int)=((30-m:Nat):Int) from ah]
  refine(FT wr bx bx x (30-m) HI.out.blk HI.out (nG ah ah) ah).mono ?_
  rintro e w2 ⟨rfl,hI2,hG2⟩
  have I2:=hid hI2
  have B2:=hid (bK HB.out hG2 hb1)
  clear hI2 hG2
  generalize x/2^(30-m)=y at*
  have K:=hid (oP w2 bx y I2.out ah ah)
  by_cases hc:2147483647<=y
  ·have HV2:=hid (show jS (m:Nat) f=2147483647 by rw[HV.out,if_pos hc])
   clear HV
   exact abL
  have HV2:=hid (show jS (m:Nat) f=y by rw[HV.out,if_neg hc])
  have g1:y<2147483647:=ah
  clear HV hc
  exact abL
theorem ahm(n f:Int)(w:World)(T:TabS w 5 iy):
 Calls Tryz.prog 183 #[.int .i64 n,.int .i64 f] w (Jd w n f):=by
 by_cases h:(0<=n/\n<=30)/\0<=f/\f<=32767
 ·have hb:oW n f=true:=MQ
  unfold Jd
  rw[hb]
  exact ahl n f w T h.1.1 h.1.2 h.2.1 h.2.2
 ·have hb:oW n f=false:=MQ
  have hv:jS n f=0:=by unfold jS;rw[hb];rfl
  have FIN:=hid (show Jd w n f (.returned (.tuple #[.int .i64 0,.int .i64 2])) w from⟨by rw[hb,hv];rfl,aA _ _⟩)
  clear hb hv T
  by_cases h1:n<0
  ·exact l92
  by_cases h2:30<n
  ·exact l92
  by_cases h3:f<0
  ·exact l92
  have h4:32767<f:=ah
  exact l92
def DU(w:World)(n:Int)(e:Ending)(w':World):Prop:=e=.returned (.tuple #[.int .i64 (glV n),.int .i64 (aZ (glB n))])/\Below w.heap.size w w'
theorem YX(n:Int)(w:World)(T:TabS w 5 iy):
 Calls Tryz.prog 131 #[.int .i64 n] w (DU w n):=by
 by_cases h:n<0\/31<n
 ·have FIN:=hid (show DU w n (.returned (.tuple #[.int .i64 0,.int .i64 2])) w from⟨by rw[show glV n=0 by unfold glV;rw[Dn h];rfl,Dn h];rfl,aA _ _⟩)
  clear T
  rcases h with h|h
  ·go_enter Tryz.func131,Tryz.ntmps131
   go_wp2
   go_ret2
   exact FIN.out
  have h2: ¬n<0:=ah
  go_enter Tryz.func131,Tryz.ntmps131
  go_wp2
  go_ret2
  exact FIN.out
 ·have l1:0<=n:=ah
  have l2:n<=31:=ah
  have l3: ¬n<0:=ah
  have l4: ¬31<n:=ah
  have K:=ahm ((24+3*n)/8) ((24+3*n)%8*4096) w T
  have hv:jS ((24+3*n)/8) ((24+3*n)%8*4096)=glV n:=by unfold glV;rw[Gy l1 l2];rfl
  unfold Jd at K
  rw[Xg l1 l2,hv] at K
  have HF:=hid (fun(w':World) (h:Below w.heap.size w w')=>show DU w n (.returned (.tuple #[.int .i64 (glV n),.int .i64 0])) w' from⟨by rw[Gy l1 l2];rfl,h⟩)
  have K':=hid K
  clear hv T h K
  go_enter Tryz.func131,Tryz.ntmps131
  go_wp2_with(go_at_call 183;(with_reducible refine K'.out.mono ?_);rintro e w' ⟨rfl,hB⟩;have B1:=hid hB;clear hB)
  go_ret2
  exact HF.out _ B1.out
theorem aaX(w:World)(v:Int)(base:Nat)(hb:base<=w.heap.size):Own (w.alloc (.cells #[.int .i64 v] 3)) base (some ⟨w.heap.size,0,none⟩) 1 [v]:=
 World.ownsRow_lit (base:=base) (e:=3) (size:=1) w #[.int .i64 v] 1 hb iT rfl
theorem aaY(a:List Int)(w:World)(ha:a.length=8):Calls Tryz.prog 120 #[.agg (agi a)] w (uG w a):=by
 have I0:=hid (Bx2.start 22 w a)
 have hR:=oL (fn:=Tryz.f120) (p:=2) (q:=3) (ty:=90) rfl
 have HA:=hid ha
 have HIX:=hid (fun(k:Nat) (hk:k<8) (w:World)=>jp Tryz.underlying22 a ha k hk w)
 have O1:=IB.new ((w.alloc (.cells (agi a) 22)).alloc (.cells (agi Z9) 90)) 90 Z9
 have I1:=hid ((I0.out.below ((aA _ _).alloc (al0z _) (.cells (agi Z9) 90))))
 simp only[bU] at O1
 have O1:=hid O1
 have KS:=hid (fun w1=>PZ a w1 ha)
 rw[jq] at O1 I1
 clear ha I0
 by_cases sd:bM a=true
 ·have SD:=hid sd
  have SA:=hid (fun i=>xQ sd i)
  rw[sd] at KS
  clear sd
  go_enter Tryz.func120,Tryz.ntmps120
  go_wp2_with(refine aK rfl 22 (.tmp 1) rfl _ 22 a 8 _ rfl I1.out.A Tryz.underlying22 rfl aH HA.out ?_)
  refine(KS.out _).mono ?_
  rintro e w1 ⟨rfl,hB⟩
  have I2:=hid (I1.out.below hB)
  have O2:=hid (Blk.below' O1.out hB)
  clear hB O1 I1
  have G2:=hid (aaX w1 16777216 w.heap.size (by have:=I2.out.lt;omega))
  have I3:=hid (I2.out.below ((aA _ _).alloc (al0z _) (.cells #[.int .i64 16777216] 3)))
  have O3:=hid (Blk.alloc O2.out (.cells #[.int .i64 16777216] 3))
  go_wp2_with(refine aK rfl 22 (.tmp 1) rfl _ 22 a 8 _ rfl I3.out.A Tryz.underlying22 rfl aH HA.out ?_)
  go_loopw[5,16] (fun av iv wr=> ∃(m n:Nat) (A:Option Addr) (c:Nat),m<=8/\iv=.int .i64 m/\av=.slice A n c/\Hid (n=m+1)/\Hid (Own wr w.heap.size A c (cH a m))/\Hid (Bx2 22 w wr a Z9)/\Hid (IB wr (w.heap.size+1+1) 90 Z9)) (fun _ iv _=>8-(intOf iv).toNat)
  case atStart=>exact⟨0,1,_,_,ah,rfl,rfl,hid rfl,G2,I3,O3⟩
  case round=>
   clear G2 I3 O3 I2 O2
   obtain⟨m,n,A,c,hm,rfl,rfl,HN,HG,HI,HO⟩:=hrel
   by_cases hlt:m<8
   ·have hix:=HIX.out m hlt
    obtain⟨q,hq⟩:∃q,q=a.getD m 0:=⟨_,rfl⟩
    rw[<-hq] at hix
    have sq:=SA.out m
    rw[<-hq] at sq
    obtain⟨q1,q2⟩:=sq
    have KG:=hid (VT A c (cH a m) q n wr HG.out.reads (by rw[Px,HN.out]) jo jo ⟨ah,ah⟩ (fun i=>zK SA.out hm i))
    rw[show lV (cH a m) q n=cH a (m+1) from by rw[hq,HN.out];rfl] at KG
    clear hq
    go_wp2_with fail
    refine KG.out.mono ?_
    rintro e w2 ⟨A2,c2,rfl,hO,hB⟩
    have G4:=hid (hO.more (base':=w.heap.size) HI.out.bel.size)
    have I4:=hid (HI.out.below hB)
    have O4:=hid (Blk.below' HO.out hB)
    have el:(cH a (m+1)).length=m+1+1:=Px a (m+1)
    rw[el]
    clear hO hB el
    go_wp2
    go_roundw
    case rel=>exact⟨m+1,m+2,A2,c2,ah,aO,rfl,hid rfl,G4,I4,O4⟩
    case measure=>simp[intOf]<;>omega
   obtain rfl:m=8:=ah
   obtain rfl:n=9:=HN.out
   obtain⟨g,rfl,hg1,hg2⟩:=HG.out.head NJ
   have BD:=hid (fun j=>zK SA.out (show 8<=8 from ah) j)
   have hne:g≠w.heap.size+1+1:=by
    obtain⟨g',cap,cur,hA,_,_,hh,_⟩:=HG.out.form NJ
    injection hA with hA
    injection hA with hA
    subst hA
    exact Blk.ne_ (t:=3) hh HO.out aB
   clear hlt
   go_wp2
   go_loopw[25] (fun iv wr=> ∃(k:Nat) (zs:List Int),k<=9/\iv=.int .i64 k/\Hid (zs.length=9/\∀j,j<k->zs.getD j 0=((cH a 8).getD j 0+2048)/4096)/\Hid (Own wr w.heap.size (some ⟨g,0,none⟩) c (cH a 8))/\Hid (Bx2 22 w wr a Z9)/\Hid (IB wr (w.heap.size+1+1) 90 zs)) (fun iv _=>9-(intOf iv).toNat)
   case atStart=>exact⟨0,Z9,ah,rfl,hid ⟨rfl,fun j h=>ah⟩,HG,HI,HO⟩
   case round=>
    clear HI HO HG
    obtain⟨k,zs,hk,rfl,HY,HG,HI,HO⟩:=hrel
    by_cases hlt:k<9
    ·have c1:=HG.out.cell k NJ
     obtain⟨b1,b2⟩:=BD.out k
     obtain⟨x,hx⟩:∃x,x=(cH a 8).getD k 0:=⟨_,rfl⟩
     rw[<-hx] at c1 b1 b2
     have HX:=hid hx
     clear hx
     have NEXT:=hid (show Hid ((zs.set k ((x+2048)/4096)).length=9/\∀j,j<k+1->(zs.set k ((x+2048)/4096)).getD j 0=((cH a 8).getD j 0+2048)/4096) from by
      obtain⟨q1,q3⟩:=HY.out
      refine⟨xu,fun j hj=>?_⟩
      by_cases he:k=j
      ·subst he
       rw[gQ _ _ _ ah,HX.out]
      ·rw[iw _ _ he]
       exact q3 j ah)
     go_wp2_with fail
     refine(F5 (x+2048) _ ah ah).mono ?_
     rintro e w3 ⟨rfl,hB⟩
     have G3:=hid (HG.out.below hB)
     have I3:=hid (HI.out.below hB)
     have O3:=hid (Blk.below' HO.out hB)
     clear hB c1
     have c3:=IB.cell O3.out k rG
     have f3:=Blk.frozen O3.out k
     have I4:=hid (I3.out.setCell (g:=w.heap.size+1+1) ah k (.int .i64 ((x+2048)/4096)))
     have O4:=hid (IB.set_ O3.out k ((x+2048)/4096))
     have G4:=hid (G3.out.kept (row:=some (w.heap.size+1+1)) (w':=w3.setCell ⟨w.heap.size+1+1,k,none⟩ (.int .i64 ((x+2048)/4096))) ⟨rfl,rfl,rfl,zi,fun i _ hn=>Below.heap_setCell _ _ _ i vp⟩ (fun ad h=>by injection h with h;subst h;simpa using hne))
     go_wp2
     go_roundw
     case rel=>exact⟨k+1,_,ah,aO,NEXT.out,G4,I4,O4⟩
     case measure=>simp[intOf]<;>omega
    obtain rfl:k=9:=ah
    have FIN:=hid (XO SD.out HY.out.1 HY.out.2 (aS HI.out.bel (g:=w.heap.size+1) ah (agi zs)))
    have hRow:=hid (HI.out.R.setRow zs)
    clear hlt
    go_wp2_with(first
     |(refine aK rfl 90 (.tmp 4) rfl _ 90 zs 9 _ rfl HO.out Tryz.underlying90 rfl bC HY.out.1 ?_)
     |(refine aP rfl 90 (.tmp 2) (.tmp 36) rfl _ 90 Z9 zs 9 rfl rfl HI.out.R bC rfl HY.out.1 ?_))
    exact aci
 have sd':bM a=false:=by simpa using sd
 have FIN:=hid (fun w1=>XN (w:=w) (w':=w1) (a:=a) sd')
 rw[sd'] at KS
 clear sd sd'
 go_enter Tryz.func120,Tryz.ntmps120
 go_wp2_with(refine aK rfl 22 (.tmp 1) rfl _ 22 a 8 _ rfl I1.out.A Tryz.underlying22 rfl aH HA.out ?_)
 refine(KS.out _).mono ?_
 rintro e w1 ⟨rfl,hB⟩
 have I2:=hid (I1.out.below hB)
 have O2:=hid (Blk.below' O1.out hB)
 have hRow:=hid (I2.out.R.setRow Z9)
 have F2:=hid (FIN.out _ (aS I2.out.bel (g:=w.heap.size+1) ah (agi Z9)))
 clear hB O1 I1
 go_wp2_with(first
  |(refine aK rfl 90 (.tmp 4) rfl _ 90 Z9 9 _ rfl O2.out Tryz.underlying90 rfl bC rfl ?_)
  |(refine aP rfl 90 (.tmp 2) (.tmp 13) rfl _ 90 Z9 Z9 9 rfl rfl I2.out.R bC rfl rfl ?_))
 refine bg (v:=_) (hR _ _ _ 90 Z9 _ 9 rfl hRow.out Tryz.underlying90 rfl bC rfl) rfl ?_
 exact F2.out
end Go.Proofs.YthoiikkjjaldnaaGreatDoor
