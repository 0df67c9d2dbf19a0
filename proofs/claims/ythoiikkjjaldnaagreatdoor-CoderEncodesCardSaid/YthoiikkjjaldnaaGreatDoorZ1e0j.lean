/- Texts that the law rests on. -/
import Derived.Test.YthoiikkjjaldnaaGreatDoorZ1e0c
import Derived.Test.YthoiikkjjaldnaaGreatDoorZ1e0e
namespace Go.Proofs.YthoiikkjjaldnaaGreatDoor
set_option linter.unusedVariables false
set_option linter.unusedSimpArgs false
set_option maxRecDepth 100000
set_option maxHeartbeats 8000000
open Go.RowKit
def iW(n:Nat):List Int:=(List.replicate n 0).set 0 4096
def uN(n:Int):Bool:=decide (0<=n/\n<=80)
def lm(a:List Int)(n:Int):List Int:=if uN n then(if di a Z8 (iW n.toNat) then dF a Z8 (iW n.toNat) n.toNat else[]) else[]
def pz(a:List Int)(n:Int):Int:=if uN n then aZ (di a Z8 (iW n.toNat)) else 1
theorem Y7(n:Nat):(iW n).length=n:=by simp[iW]
theorem Jf{n:Int}(h:n<0\/80<n):uN n=false:=by unfold uN;simp;omega
theorem Y8{n:Int}(h1:0<=n)(h2:n<=80):uN n=true:=by unfold uN;simp;omega
def uO(n k:Nat):List Int:=if k=0 then List.replicate n 0 else iW n
theorem Y9(n k:Nat):(uO n k).length=n:=by unfold uO;split<;>simp[iW]
theorem ahx(k:Nat):uO k k=iW k:=by
 unfold uO
 split
 ·rename_i h;subst h;rfl
 rfl
theorem ahy(a:List Int)(n:Int)(w:World)(ha:a.length=9):Calls Tryz.prog 92 #[.agg (agi a),.int .i64 n] w (NewSE w (lm a n) (pz a n)):=by
 by_cases h1:n<0\/80<n
 ·rw[show lm a n=[] from by unfold lm;rw[Jf h1];rfl,show pz a n=1 from by unfold pz;rw[Jf h1];rfl]
  have FIN:=hid (NewSE.none_ (er:=1) ((aA _ w).alloc (al0z _) (.cells (agi a) 90)))
  rcases h1 with h1|h1
  ·go_enter Tryz.func92,Tryz.ntmps92
   go_wp2
   go_ret2
   exact FIN.out
  have h2: ¬n<0:=ah
  go_enter Tryz.func92,Tryz.ntmps92
  go_wp2
  go_ret2
  exact FIN.out
 obtain⟨N,rfl⟩:=dP (show 0<=n from ah)
 have hb:uN (N:Nat)=true:=Y8 ah ah
 have hN:N<=80:=ah
 obtain⟨ys,hys⟩:∃ys,ys=lm a (N:Nat):=⟨_,rfl⟩
 obtain⟨er,her⟩:∃er,er=pz a (N:Nat):=⟨_,rfl⟩
 have K1:∀W A,Rs W W.heap.size A (iW N)->Calls Tryz.prog 90 #[.agg (agi a),.agg (agi Z8),.slice A N N] W (fun e w'=> ∃A3 c3 q,q.length=8/\e=.returned (.tuple #[.slice A3 ys.length c3,.agg (agi q),.int .i64 er])/\Own w' W.heap.size A3 c3 ys/\Below W.heap.size W w'):=fun W A h=>by
  refine(Rk a Z8 (iW N) A N N W ha rfl h (Y7 N) ah).mono ?_
  exact l45
 rw[<-hys,<-her]
 clear hys her hb h1
 rw[bW] at K1
 have K1':=hid K1
 clear K1
 have A0:=hid (IB.new w 90 a)
 have HA:=hid ha
 clear ha
 have d1:decide ((N:Int)<0)=false:=BN
 have d2:decide (80<(N:Int))=false:=aJ
 by_cases h0:N=0
 ·subst h0
  have K1:=hid (fun W A=>K1'.out W A)
  clear K1'
  go_enter Tryz.func92,Tryz.ntmps92
  go_wp2_with(first
   |(at_make;refine kR rfl _ _ rfl .i64 .i64 0 rfl rfl w.heap.size ah az ?_;intro w1 hO hG;simp only[bU] at hO;have O1:=hid (show Own w1 w.heap.size (some ⟨w.heap.size+1,0,none⟩) 0 (iW 0) from hO);have A1:=hid (Blk.grown A0.out hG az);have B1:=hid (((aA w.heap.size w).alloc (al0z _) (.cells (agi a) 90)).grown hG az az);clear hO hG)
   |(refine aK rfl 90 (.tmp 2) rfl _ 90 a 9 _ rfl A1.out Tryz.underlying90 rfl bC HA.out ?_))
  refine(K1.out _ _ O1.out.reads).mono ?_
  exact l54
 have d3:decide (0<(N:Int))=true:=aJ
 have i1:(0:Int)<N:=ah
 have i2:0<N:=ah
 have KN:=hid (fun W A h=>K1'.out W A h)
 have HX:=hid (show(List.replicate N 0).set 0 4096=iW N from rfl)
 clear K1' h0
 go_enter Tryz.func92,Tryz.ntmps92
 go_wp2_with(first
  |(at_make;refine kR rfl _ _ rfl .i64 .i64 N rfl rfl w.heap.size ah az ?_;intro w1 hO hG;simp only[bU] at hO;have cc:=hO.cell 0 (by simpa using i2);have ff:=hO.frozen 0;have O1:=hid (show Own (w1.setCell ⟨w.heap.size+1,0,none⟩ (.int .i64 4096)) w.heap.size (some ⟨w.heap.size+1,0,none⟩) N (iW N) from hO.set_ 0 (by simpa using i2) 4096);have A1:=hid (Blk.far (Blk.grown A0.out hG az) (p:=⟨w.heap.size+1,0,none⟩) (show w.heap.size≠w.heap.size+1 from ah) (.int .i64 4096));have B1:=hid ((((aA w.heap.size w).alloc (al0z _) (.cells (agi a) 90)).grown hG az az).setCell (p:=⟨w.heap.size+1,0,none⟩) (show w.heap.size<=w.heap.size+1 from ah) (.int .i64 4096));clear hO hG)
  |(refine aK rfl 90 (.tmp 2) rfl _ 90 a 9 _ rfl A1.out Tryz.underlying90 rfl bC HA.out ?_))
 refine(KN.out _ _ O1.out.reads).mono ?_
 exact l54
theorem ahz(a:List Int)(n:Int)(w:World)(ha:a.length=9):Calls Tryz.prog 121 #[.agg (agi a),.int .i64 n] w (NewSE w (lm a n) (pz a n)):=by
 by_cases h1:n<0\/80<n
 ·rw[show lm a n=[] from by unfold lm;rw[Jf h1];rfl,show pz a n=1 from by unfold pz;rw[Jf h1];rfl]
  have FIN:=hid (NewSE.none_ (er:=1) ((aA _ w).alloc (al0z _) (.cells (agi a) 90)))
  rcases h1 with h1|h1
  ·go_enter Tryz.func121,Tryz.ntmps121
   go_wp2
   go_ret2
   exact FIN.out
  have h2: ¬n<0:=ah
  go_enter Tryz.func121,Tryz.ntmps121
  go_wp2
  go_ret2
  exact FIN.out
 obtain⟨N,rfl⟩:=dP (show 0<=n from ah)
 have hb:uN (N:Nat)=true:=Y8 ah ah
 have hN:N<=80:=ah
 obtain⟨ys,hys⟩:∃ys,ys=lm a (N:Nat):=⟨_,rfl⟩
 obtain⟨er,her⟩:∃er,er=pz a (N:Nat):=⟨_,rfl⟩
 have K1:∀W A,Rs W W.heap.size A (iW N)->Calls Tryz.prog 57 #[.agg (agi a),.agg (agi Z8),.slice A N N] W (fun e w'=> ∃A3 c3 q,q.length=8/\e=.returned (.tuple #[.slice A3 ys.length c3,.agg (agi q),.int .i64 er])/\Own w' W.heap.size A3 c3 ys/\Below W.heap.size W w'):=fun W A h=>by
  refine(zV a Z8 (iW N) A N N W ha rfl h (Y7 N) ah ah).mono ?_
  exact l45
 rw[<-hys,<-her]
 clear hys her hb h1
 rw[bW] at K1
 have K1':=hid K1
 clear K1
 have A0:=hid (IB.new w 90 a)
 have HA:=hid ha
 clear ha
 have d1:decide ((N:Int)<0)=false:=BN
 have d2:decide (80<(N:Int))=false:=aJ
 go_enter Tryz.func121,Tryz.ntmps121
 go_wp2_with(at_make;refine kR rfl _ _ rfl .i64 .i64 N rfl rfl w.heap.size ah az ?_;intro w1 hO hG;simp only[bU] at hO;have O1:=hid (show Own w1 w.heap.size (some ⟨w.heap.size+1,0,none⟩) N (uO N 0) from hO);have A1:=hid (Blk.grown A0.out hG az);have B1:=hid (((aA w.heap.size w).alloc (al0z _) (.cells (agi a) 90)).grown hG az az);clear hO hG)
 go_loopw[21] (fun iv wr=> ∃k:Nat,k<=N/\iv=.int .i64 k/\Hid (Own wr w.heap.size (some ⟨w.heap.size+1,0,none⟩) N (uO N k))/\Hid (IB wr w.heap.size 90 a)/\Hid (Below w.heap.size w wr)) (fun iv _=>N-(intOf iv).toNat)
 case atStart=>exact⟨0,ah,rfl,O1,A1,B1⟩
 case round=>
  clear O1 A1 B1
  obtain⟨k,hk,rfl,O1,A1,B1⟩:=hrel
  by_cases hlt:k<N
  ·by_cases h0:k=0
   ·subst h0
    have cc:=O1.out.cell 0 (by rw[Y9];exact hlt)
    have ff:=O1.out.frozen 0
    have hl:(0:Int)<N:=ah
    have O2:=hid (show Own (wr.setCell ⟨w.heap.size+1,0,none⟩ (.int .i64 4096)) w.heap.size (some ⟨w.heap.size+1,0,none⟩) N (uO N 1) from O1.out.set_ 0 (by rw[Y9];exact hlt) 4096)
    have A2:=hid (Blk.far A1.out (p:=⟨w.heap.size+1,0,none⟩) (show w.heap.size≠w.heap.size+1 from ah) (.int .i64 4096))
    have B2:=hid (B1.out.setCell (p:=⟨w.heap.size+1,0,none⟩) (show w.heap.size<=w.heap.size+1 from ah) (.int .i64 4096))
    go_wp2
    go_roundw
    case rel=>exact⟨1,ah,aO,O2,A2,B2⟩
    case measure=>simp[intOf]<;>omega
   have d0:((k:Int)==0)=false:=BN
   have d4:((k:Int) !=0)=true:=BN
   have d5: ¬(k:Int)=0:=ah
   have O2:=hid (show Own wr w.heap.size (some ⟨w.heap.size+1,0,none⟩) N (uO N (k+1)) from by have h:=O1.out;unfold uO at h|-;rw[if_neg h0] at h;rw[if_neg ah];exact h)
   clear O1 h0
   go_wp2
   go_roundw
   case rel=>exact⟨k+1,ah,aO,O2,A1,B1⟩
   case measure=>simp[intOf]<;>omega
  obtain rfl:k=N:=ah
  have O2:=hid (show Own wr w.heap.size (some ⟨w.heap.size+1,0,none⟩) k (iW k) from by have h:=O1.out;rw[ahx] at h;exact h)
  go_wp2_with(refine aK rfl 90 (.tmp 2) rfl _ 90 a 9 _ rfl A1.out Tryz.underlying90 rfl bC HA.out ?_)
  refine(K1'.out _ _ O2.out.reads).mono ?_
  rintro e w2 ⟨A3,c3,q,hq,rfl,hO,hB⟩
  have HQ:=hid hq
  have O3:=hid hO
  have B2:=hid (B1.out.trans (hB.mono B1.out.size))
  clear hB hO hq
  go_wp2_with(refine aP rfl 22 (.tmp 9) (.tmp 36) rfl _ 22 Z8 q 8 rfl rfl (IB.new w2 22 Z8) aH rfl HQ.out ?_)
  go_ret2
  exact⟨A3,c3,rfl,(O3.out.below (bT w2 (.cells (agi Z8) 22) _)).more B1.out.size,B2.out.trans ((bT w2 (.cells (agi Z8) 22) _).mono B2.out.size)⟩
def qX(a b:List Int)(i:Nat):Int:=s16 (a.getD i 0-b.getD i 0)
def wE(a b:List Int)(n:Nat):List Int:=(List.range n).map (qX a b)
def nH(l:List Int)(g:Int)(i:Nat):Int:=s16 ((l.getD i 0*g+8192)/16384)
def sH(l:List Int)(g:Int)(n:Nat):List Int:=(List.range n).map (nH l g)
theorem D7(a b:List Int)(n:Nat):(wE a b n).length=n:=by simp[wE]
theorem Rl(l:List Int)(g:Int)(n:Nat):(sH l g n).length=n:=by simp[sH]
theorem Za(f:Nat->Int)(h:∀i,∃x,f i=s16 x)(n:Nat):aG ((List.range n).map f)=true:=by
 unfold aG
 rw[kF]
 intro y hy
 obtain⟨i,_,rfl⟩:=List.mem_map.1 hy
 obtain⟨x,hx⟩:=h i
 rw[hx]
 exact WZ x
theorem Zb(a b:List Int)(n:Nat):aG (wE a b n)=true:=Za _ (fun i=>⟨_,rfl⟩) n
theorem ahA(l:List Int)(g:Int)(n:Nat):aG (sH l g n)=true:=Za _ (fun i=>⟨_,rfl⟩) n
def jI(m:Mm)(a:List Int):List Int:=dF a m.p (List.replicate 40 0) 40
def chT(m:Mm)(a l:List Int):List Int:=wE l (jI m a) 40
def chR(a:List Int):List Int:=lm a 40
def chK(m:Mm)(a l:List Int):Int×Int×Int:=pkS (chR a) m.e (chT m a l) 60
def chP(m:Mm)(a l:List Int):Int:=ju (chK m a l).2.1 (chK m a l).2.2
def chV(m:Mm)(a l:List Int):List Int:=foL (chR a) (cO m.e (chK m a l).1)
def iQ(m:Mm)(a l:List Int):List Int:=wE (chT m a l) (sH (chV m a l) (bP (chP m a l)) 40) 40
def chD(m:Mm)(a l:List Int):List Int:=tgL (iQ m a l) (chR a)
def chI(m:Mm)(a l:List Int):List Int:=eu (chD m a l) (chR a) 8
def chS(m:Mm)(a l:List Int):Int:=mg (chD m a l) (chI m a l) 4
def chF(m:Mm)(a l:List Int):List Int:=foL (chR a) (blL (chI m a l) (chS m a l) 4096)
def chL(m:Mm)(a l:List Int):Int:=jl (bz (iQ m a l) (chF m a l) 40*4096) (bz (chF m a l) (chF m a l) 40)
def chU(m:Mm)(a l:List Int):List Int:=((chK m a l).1-20)::chP m a l::(chI m a l++[chS m a l,chL m a l])
theorem Rn(n:Nat):aG (List.replicate n 0)=true:=by
 unfold aG
 rw[kF]
 intro x hx
 rw[List.eq_of_mem_replicate hx]
 decide
theorem ahB:aG (iW 40)=true:=aB
section
variable {m:Mm} {a l:List Int}
theorem Zc:(jI m a).length=40:=zE _ _ _ _
theorem yK:(chT m a l).length=40:=D7 _ _ _
theorem yM:aG (chT m a l)=true:=Zb _ _ _
theorem Rt(ha:jH a):lm a 40=dF a Z8 (iW 40) 40/\pz a 40=0:=by
 have hb:uN 40=true:=aB
 have hF:di a Z8 (iW (40:Int).toNat)=true:=zN ha (Rn 8) ahB
 unfold lm pz
 rw[hb,if_pos rfl,if_pos rfl,hF,if_pos rfl]
 exact⟨rfl,rfl⟩
theorem D8(ha:jH a):(chR a).length=40:=by unfold chR;rw[(Rt ha).1];exact zE _ _ _ _
theorem zW(ha:jH a):aG (chR a)=true:=by unfold chR;rw[(Rt ha).1];exact yw _ _ _ _
theorem Jg(ha:jH a):pkR (chR a)=true:=by unfold pkR;rw[zW ha,D8 ha];rfl
theorem yN:20<=(chK m a l).1/\(chK m a l).1<=79:=ag7 _ _ _ 60 (al0z _)
theorem Zd(vs:List Int)(one c e:Int){k:Nat}(h:0<k):0<=bD vs one c e (k+1)/\bD vs one c e (k+1)<=k:=by
 have h2:=rZ vs one c e k
 rw[rY vs one c e h]
 split<;>omega
theorem ahC(c e:Int):0<=ju c e/\ju c e<=7:=by
 unfold ju
 split
 ·omega
 exact Zd aY 16384 (ij c) (ij e) (k:=7) ah
theorem ahD(c e:Int):0<=jl c e/\jl c e<=31:=by
 unfold jl
 split
 ·omega
 exact Zd glL 1 (lj c) (jM e) (k:=31) ah
theorem D9:0<=chP m a l/\chP m a l<=7:=ahC _ _
theorem Jh:(cO m.e (chK m a l).1).length=40:=xZ (rO yN.1 yN.2)
theorem Ru(g:aU m=true):aG (cO m.e (chK m a l).1)=true:=QT (fP (kM g).2.2.1) _
theorem Rw(g:aU m=true)(ha:jH a):(chV m a l).length=40:=by
 have h:=IQ (ring:=chR a) (v:=cO m.e (chK m a l).1) Jh (Ru g)
 rw[Jg ha] at h
 exact h
theorem Ze:aG (chV m a l)=true:=DK _ _
theorem Ea:(iQ m a l).length=40:=D7 _ _ _
theorem yO:aG (iQ m a l)=true:=Zb _ _ _
theorem Rx(ha:jH a):jT (iQ m a l) (chR a)=0:=by
 rw[Qk Ea (D8 ha)]
 unfold tgB
 rw[yO,zW ha];rfl
theorem Ji(ha:jH a):(chD m a l).length=40:=by unfold chD;rw[GU (Rx ha)];simp
theorem Zf(ha:jH a):∀x∈chD m a l,-42949672960<=x/\x<=42949672960:=by
 intro x hx
 unfold chD at hx
 rw[GU (Rx ha)] at hx
 obtain⟨n,_,rfl⟩:=List.mem_map.1 hx
 have:=Xn (fP (yO (m:=m) (a:=a) (l:=l))) (chR a) n 40
 unfold tgE
 omega
theorem Zg(ha:jH a):W64 (chD m a l):=fun x hx=>by have:=Zf ha x hx;omega
theorem Zh(ha:jH a):iV (chD m a l) (chR a)=0:=by
 unfold iV
 rw[if_pos ⟨Ji ha,D8 ha⟩,if_pos ?_]
 rw[kF]
 intro x hx
 have:=Zf ha x hx
 simp;omega
theorem Zi:Ix (chI m a l):=wz _ _ _
theorem yP:(chI m a l).length=4:=Zi.1
theorem Zj{j:Nat}(hj:j<4):0<=(chI m a l).getD j 0/\(chI m a l).getD j 0<=9:=by
 have h:=Zi (m:=m) (a:=a) (l:=l)
 have h2:=h.2
 unfold qR at h2
 have h3:=FW h2 j (by rw[h.1];exact hj)
 simpa using h3
theorem Zk:0<=chS m a l/\chS m a l<=15:=by
 have:=DT (chD m a l) (chI m a l) 4
 unfold chS mg
 omega
theorem Jj:blB (chI m a l) (chS m a l) 4096=true:=by
 have h:=Zk (m:=m) (a:=a) (l:=l)
 unfold blB blS
 rw[Bool.and_eq_true]
 refine⟨decide_eq_true ⟨h,ah,ah⟩,?_⟩
 have h3:allTo okI (chI m a l) 4:=fun j hj=>by
  have:=Zj (m:=m) (a:=a) (l:=l) hj
  exact GZ this.1 this.2
 exact h3.all (by rw[yP];exact al0z _)
theorem Eb:(blL (chI m a l) (chS m a l) 4096).length=40:=by unfold blL;rw[Jj];simp
theorem Ry:aG (blL (chI m a l) (chS m a l) 4096)=true:=by
 unfold blL
 rw[Jj,if_pos rfl]
 unfold aG
 rw[kF]
 intro y hy
 obtain⟨i,_,rfl⟩:=List.mem_map.1 hy
 unfold blE
 split
 ·split<;>decide
 decide
theorem yR(ha:jH a):(chF m a l).length=40:=by
 have h:=IQ (ring:=chR a) (v:=blL (chI m a l) (chS m a l) 4096) Eb Ry
 rw[Jg ha] at h
 exact h
theorem pF:aG (chF m a l)=true:=DK _ _
theorem ahE:0<=chL m a l/\chL m a l<=31:=ahD _ _
theorem ahF:(chU m a l).length=8:=by unfold chU;simp[yP]
theorem Jk:UOk (chU m a l):=by
 have h1:=yN (m:=m) (a:=a) (l:=l)
 have h2:=D9 (m:=m) (a:=a) (l:=l)
 have h3:=Zk (m:=m) (a:=a) (l:=l)
 have h4:=ahE (m:=m) (a:=a) (l:=l)
 have hI:=yP (m:=m) (a:=a) (l:=l)
 have hj:∀j,j<4->0<=(chI m a l).getD j 0/\(chI m a l).getD j 0<=9:=fun j hj=>Zj hj
 have hl:=ahF (m:=m) (a:=a) (l:=l)
 unfold chU at*
 generalize (chK m a l).1=k at*
 generalize chP m a l=p at*
 generalize chS m a l=s at*
 generalize chL m a l=v at*
 generalize chI m a l=I at*
 match I,hI with
 |[i0,i1,i2,i3],_=>
  refine⟨hl,⟨by show 0<=k-20;omega,by show k-20<=59;omega⟩,h2,fun j a1 a2=>?_,h3,h4⟩
  have e:j=2\/j=3\/j=4\/j=5:=ah
  rcases e with rfl|rfl|rfl|rfl
  ·exact hj 0 ah
  ·exact hj 1 ah
  ·exact hj 2 ah
  exact hj 3 ah
end
theorem JO{s i:Nat}(h:s<2^i):s|||2^i=s+2^i:=by
 have:=Nat.two_pow_add_eq_or_of_lt h 1
 rw[Nat.mul_one] at this
 rw[Nat.or_comm,<-this,Nat.add_comm]
theorem aaD(A:Option Addr)(c:Nat)(d x:List Int)(w:World)(hd:Rs w w.heap.size A d)(dl:d.length=40)(hx:Ix x):
 Calls Tryz.prog 166 #[.slice A 40 c,.agg (agi x)] w (fun e w'=>e=.returned (.int .i64 (mg d x 4))/\Below w.heap.size w w'):=by
 have HIX:=hid (fun(k:Nat) (hk:k<4) (w:World)=>jp Tryz.underlying33 x hx.1 k hk w)
 have BA:=hid ((aA w.heap.size w).alloc (al0z _) (.cells (agi x) 33))
 have I0:=hid (IB.new w 33 x)
 have HD:=hid ((hd.below BA.out).more BA.out.size)
 have DL:=hid dl
 have OK:=hid hx.2
 have X4:=hid hx.1
 clear hd dl hx
 go_enter Tryz.func166,Tryz.ntmps166
 go_wp2_with(refine aK rfl 33 (.tmp 3) rfl _ 33 x 4 _ rfl I0.out Tryz.underlying33 rfl eY X4.out ?_)
 generalize w.alloc (.cells (agi x) 33)=V at I0 HD BA|-
 go_loop [5,9] (fun sv iv=> ∃i:Nat,i<=4/\iv=.int .i64 i/\sv=.int .i64 ((gZ d x i:Nat):Int)) (fun _ iv=>4-(intOf iv).toNat)
 case atStart=>exact⟨0,ah,rfl,rfl⟩
 case round=>
  obtain⟨i,hi,rfl,rfl⟩:=hrel
  by_cases hlt:i<4
  ·have hi4:i=0\/i=1\/i=2\/i=3:=ah
   clear hlt hi
   rcases hi4 with rfl|rfl|rfl|rfl
   ·have hI:=HIX.out 0 ah
    rw[show((0:Nat):Int)=(0:Int) from rfl] at hI
    have po:=pg OK.out 0
    obtain⟨q,hq⟩:=dP po.1
    have pa:=qU OK.out (t:=0) ah
    have hpl:(0:Int)+4*(q:Nat)=(plc x 0:Nat):=uh
    rw[hq] at hI po
    try simp only[Int.zero_add] at hpl
    have SG:=hid (show gZ d x (0+1)=if 0<=d.getD (plc x 0) 0 then gZ d x 0+2^0 else gZ d x 0 from rfl)
    have SL:=DT d x 0
    obtain⟨a,ha⟩:∃a,a=plc x 0:=⟨_,rfl⟩
    rw[<-ha] at hpl pa SG
    obtain⟨ad,rfl,hadb,c0⟩:=HD.out.at_ (k:=a) rH
    generalize d.getD a 0=y at*
    generalize gZ d x 0=s at*
    have hor:bits BinOp.or IntKind.i64 (s:Nat) 1=((s+1:Nat):Int):=by
     have:=JJ (z:=s) (p:=1) (JO (i:=0) SL) (by have:s<1:=SL;omega)
     exact this
    have q9:(q:Int)<=9:=po.2
    have a40:(a:Int)<40:=ah
    have a0:(0:Int)<=a:=ah
    have HA:=hid ha
    have HQ:=hid hq
    clear po ha hq SL
    by_cases hy:0<=y
    ·have hd:decide (0<=y)=true:=qm
     have NS:=hid (show gZ d x (0+1)=s+1 from xg)
     exact ab4
    have hd:decide (0<=y)=false:=aJ
    have NS:=hid (show gZ d x (0+1)=s from xh)
    exact ab4
   ·have hI:=HIX.out 1 ah
    rw[show((1:Nat):Int)=(1:Int) from rfl] at hI
    have po:=pg OK.out 1
    obtain⟨q,hq⟩:=dP po.1
    have pa:=qU OK.out (t:=1) ah
    have hpl:(1:Int)+4*(q:Nat)=(plc x 1:Nat):=uh
    rw[hq] at hI po
    try simp only[Int.zero_add] at hpl
    have SG:=hid (show gZ d x (1+1)=if 0<=d.getD (plc x 1) 0 then gZ d x 1+2^1 else gZ d x 1 from rfl)
    have SL:=DT d x 1
    obtain⟨a,ha⟩:∃a,a=plc x 1:=⟨_,rfl⟩
    rw[<-ha] at hpl pa SG
    obtain⟨ad,rfl,hadb,c0⟩:=HD.out.at_ (k:=a) rH
    generalize d.getD a 0=y at*
    generalize gZ d x 1=s at*
    have hor:bits BinOp.or IntKind.i64 (s:Nat) 2=((s+2:Nat):Int):=by
     have:=JJ (z:=s) (p:=2) (JO (i:=1) SL) (by have:s<2:=SL;omega)
     exact this
    have q9:(q:Int)<=9:=po.2
    have a40:(a:Int)<40:=ah
    have a0:(0:Int)<=a:=ah
    have HA:=hid ha
    have HQ:=hid hq
    clear po ha hq SL
    by_cases hy:0<=y
    ·have hd:decide (0<=y)=true:=qm
     have NS:=hid (show gZ d x (1+1)=s+2 from xg)
     exact ab5
    have hd:decide (0<=y)=false:=aJ
    have NS:=hid (show gZ d x (1+1)=s from xh)
    exact ab5
   ·have hI:=HIX.out 2 ah
    rw[show((2:Nat):Int)=(2:Int) from rfl] at hI
    have po:=pg OK.out 2
    obtain⟨q,hq⟩:=dP po.1
    have pa:=qU OK.out (t:=2) ah
    have hpl:(2:Int)+4*(q:Nat)=(plc x 2:Nat):=uh
    rw[hq] at hI po
    try simp only[Int.zero_add] at hpl
    have SG:=hid (show gZ d x (2+1)=if 0<=d.getD (plc x 2) 0 then gZ d x 2+2^2 else gZ d x 2 from rfl)
    have SL:=DT d x 2
    obtain⟨a,ha⟩:∃a,a=plc x 2:=⟨_,rfl⟩
    rw[<-ha] at hpl pa SG
    obtain⟨ad,rfl,hadb,c0⟩:=HD.out.at_ (k:=a) rH
    generalize d.getD a 0=y at*
    generalize gZ d x 2=s at*
    have hor:bits BinOp.or IntKind.i64 (s:Nat) 4=((s+4:Nat):Int):=by
     have:=JJ (z:=s) (p:=4) (JO (i:=2) SL) (by have:s<4:=SL;omega)
     exact this
    have q9:(q:Int)<=9:=po.2
    have a40:(a:Int)<40:=ah
    have a0:(0:Int)<=a:=ah
    have HA:=hid ha
    have HQ:=hid hq
    clear po ha hq SL
    by_cases hy:0<=y
    ·have hd:decide (0<=y)=true:=qm
     have NS:=hid (show gZ d x (2+1)=s+4 from xg)
     exact ab6
    have hd:decide (0<=y)=false:=aJ
    have NS:=hid (show gZ d x (2+1)=s from xh)
    exact ab6
   have hI:=HIX.out 3 ah
   rw[show((3:Nat):Int)=(3:Int) from rfl] at hI
   have po:=pg OK.out 3
   obtain⟨q,hq⟩:=dP po.1
   have pa:=qU OK.out (t:=3) ah
   have hpl:(3:Int)+4*(q:Nat)=(plc x 3:Nat):=uh
   rw[hq] at hI po
   try simp only[Int.zero_add] at hpl
   have SG:=hid (show gZ d x (3+1)=if 0<=d.getD (plc x 3) 0 then gZ d x 3+2^3 else gZ d x 3 from rfl)
   have SL:=DT d x 3
   obtain⟨a,ha⟩:∃a,a=plc x 3:=⟨_,rfl⟩
   rw[<-ha] at hpl pa SG
   obtain⟨ad,rfl,hadb,c0⟩:=HD.out.at_ (k:=a) rH
   generalize d.getD a 0=y at*
   generalize gZ d x 3=s at*
   have hor:bits BinOp.or IntKind.i64 (s:Nat) 8=((s+8:Nat):Int):=by
    have:=JJ (z:=s) (p:=8) (JO (i:=3) SL) (by have:s<8:=SL;omega)
    exact this
   have q9:(q:Int)<=9:=po.2
   have a40:(a:Int)<40:=ah
   have a0:(0:Int)<=a:=ah
   have HA:=hid ha
   have HQ:=hid hq
   clear po ha hq SL
   by_cases hy:0<=y
   ·have hd:decide (0<=y)=true:=qm
    have NS:=hid (show gZ d x (3+1)=s+8 from xg)
    exact ab7
   have hd:decide (0<=y)=false:=aJ
   have NS:=hid (show gZ d x (3+1)=s from xh)
   exact ab7
  obtain rfl:i=4:=ah
  go_wp2
  go_ret
  exact⟨rfl,BA.out⟩
end Go.Proofs.YthoiikkjjaldnaaGreatDoor
