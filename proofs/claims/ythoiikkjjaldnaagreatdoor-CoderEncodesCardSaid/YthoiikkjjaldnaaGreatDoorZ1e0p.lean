/- Texts that the law rests on. -/
import Derived.Test.YthoiikkjjaldnaaGreatDoorZ1e09
namespace Go.Proofs.YthoiikkjjaldnaaGreatDoor
set_option linter.unusedVariables false
set_option linter.unusedSimpArgs false
set_option maxRecDepth 100000
set_option maxHeartbeats 8000000
open Go.RowKit
theorem TV(w:World)(u v:Int)(base:Nat)(hb:base<=w.heap.size):Own (w.alloc (.cells #[.int .i64 u,.int .i64 v] 3)) base (some ⟨w.heap.size,0,none⟩) 2 [u,v]:=
 World.ownsRow_lit (base:=base) (e:=3) (size:=1) w #[.int .i64 u,.int .i64 v] 2 hb iT rfl
theorem ajA(xs ys:List Int)(k:Nat)(h:k<xs.length):(xs++ys).getD k 0=xs.getD k 0:=by
 simp[bi,mF h]
theorem TZ(xs ys:List Int)(k j:Nat)(h:k=xs.length+j):(xs++ys).getD k 0=ys.getD j 0:=by
 subst h
 simp[bi,uY]
theorem ajB(l:List Int)(a b c d:Int)(k:Nat):([b,a]++l).getD (k+1) 0=(hiN l a b c d k).1.1/\([b,a]++l).getD k 0=(hiN l a b c d k).1.2.1:=by
 induction k with
 |zero=>exact⟨rfl,rfl⟩
 |succ k ih=>exact⟨by rw[TZ _ _ _ k aJ];rfl,ih.1⟩
theorem ajC(l:List Int)(a b c d:Int)(k:Nat):([d,c]++(hiN l a b c d k).2).getD (k+1) 0=(hiN l a b c d k).1.2.2.1/\([d,c]++(hiN l a b c d k).2).getD k 0=(hiN l a b c d k).1.2.2.2:=by
 induction k with
 |zero=>exact⟨rfl,rfl⟩
 |succ k ih=>
  have hl:=Jl l a b c d k
  constructor
  ·rw[hiN,<-mG,TZ _ _ _ 0 (by simp[hl])];rfl
  rw[hiN,<-mG,ajA _ _ _ (by simp[hl])];exact ih.1
structure Hr(w wr:World)(h:List Int)(gx cx:Nat)(X:List Int)(gy cy:Nat)(Y:List Int):Prop where
 B:Hx w wr h
 X:Own wr (w.heap.size+2) (some ⟨gx,0,none⟩) cx X
 Y:Own wr (gx+1) (some ⟨gy,0,none⟩) cy Y
 lx:w.heap.size+2<=gx
 ly:gx+1<=gy
 ty:gy<wr.heap.size
section
variable {w wr w':World} {h X Y:List Int} {gx cx gy cy:Nat}
theorem Hr.below(s:Hr w wr h gx cx X gy cy Y)(hb:Below wr.heap.size wr w'):Hr w w' h gx cx X gy cy Y:=
 ⟨⟨Blk.below' s.B.H hb,Blk.below' s.B.R hb,s.B.bel.trans (hb.mono s.B.bel.size)⟩,s.X.below hb,s.Y.below hb,s.lx,s.ly,lF s.ty hb.size⟩
theorem Hr.alloc(s:Hr w wr h gx cx X gy cy Y)(o:Obj):Hr w (wr.alloc o) h gx cx X gy cy Y:=
 ⟨s.B.alloc o,s.X.alloc o,s.Y.alloc o,s.lx,s.ly,by simp;have:=s.ty;omega⟩
theorem Hr.drew(s:Hr w wr h gx cx X gy cy Y):Hr w wr.drew h gx cx X gy cy Y:=⟨s.B.drew,s.X.drew,s.Y.drew,s.lx,s.ly,s.ty⟩
theorem Hr.grown{A2:Option Addr}{c2:Nat}{y:Int}(s:Hr w wr h gx cx X gy cy Y)(hG:wr.grownBy w' (some gy))(hO:Own w' (gx+1) A2 c2 (Y++[y])):
 ∃g2,A2=some ⟨g2,0,none⟩/\Hr w w' h gx cx X g2 c2 (Y++[y]):=by
 have hl:=s.lx
 have hy:=s.ly
 obtain⟨g2,rfl,h1,h2⟩:=hO.head az
 refine⟨g2,rfl,⟨⟨Blk.grown s.B.H hG aJ,Blk.grown s.B.R hG aJ,?_⟩,s.X.kept hG aJ,hO,hl,h1,h2⟩⟩
 exact s.B.bel.grown hG (by have:=s.B.lt;omega) (fun k hk=>by injection hk with hk;omega)
end
def JZ(w:World)(ys q:List Int)(er:Int)(e:Ending)(w':World):Prop:=∃A c,e=.returned (.tuple #[.slice A ys.length c,.agg (agi q),.int .i64 er])/\Rs w' w'.heap.size A ys/\Below w.heap.size w w'/\ys.length<=c
theorem ajD(a b c d:Int)(l:List Int)(A0:Option Addr)(c0 n:Nat)(w:World)(hr:Rs w w.heap.size A0 l)(hn:l.length=n)(hl:n<=17592186044000):
 Calls Tryz.prog 48 #[.agg (agi [a,b,c,d]),.slice A0 n c0] w (JZ w (hiA l a b c d n).2.1 (hiA l a b c d n).1 (aZ (hiA l a b c d n).2.2)):=by
 have hR:=Je (fn:=Tryz.f48) (p:=4) (q:=5) (r:=6) (ty:=44) rfl
 have S0:=Hx.start w [a,b,c,d]
 rw[zX] at S0
 have S0:=hid S0
 have R0:=hid (hr.below S0.out.bel)
 have HN:=hid hn
 have HR:=hid hr
 have KL:=hid (fun(W:World) (h:Rs W W.heap.size A0 l)=>kJ A0 c0 n W.heap.size l W h hn ah)
 have KX:=hid (fun(W:World) (h:Rs W W.heap.size (some ⟨w.heap.size,0,none⟩) [a,b])=>kJ _ 2 2 W.heap.size [a,b] W h rfl ah)
 have KY:=hid (fun(W:World) (h:Rs W W.heap.size (some ⟨w.heap.size,2,none⟩) [c,d])=>kJ _ 2 2 W.heap.size [c,d] W h rfl ah)
 have RX:=hid (Jm (IB.cell S0.out.H 0 az) (IB.cell S0.out.H 1 az) (Blk.lt S0.out.H))
 have RY:=hid (Jm (IB.cell S0.out.H 2 az) (IB.cell S0.out.H 3 az) (Blk.lt S0.out.H))
 have RL:=hid (R0.out.more (show w.heap.size<=_ from S0.out.bel.size))
 clear hn hr R0
 have K1:=hid (KL.out _ RL.out)
 have K2:=hid (KX.out _ RX.out)
 have K3:=hid (KY.out _ RY.out)
 clear KL KX KY RX RY
 obtain⟨W,hW⟩:∃W,W=(w.alloc (.cells (agi [a,b,c,d]) 44)).alloc (.cells #[.int .i64 0,.int .i64 0,.int .i64 0,.int .i64 0] 44):=⟨_,rfl⟩
 rw[<-hW] at K1 K2 K3 S0 RL
 have HW:=hid hW
 clear hW
 by_cases hg:yT a b c d l=true
 ·obtain⟨gl,g1,g2⟩:aG l=true/\aG [a,b]=true/\aG [c,d]=true:=by simpa[yT] using hg
  unfold hiA
  rw[if_pos hg]
  have GN:=hid (fun k=>Zm gl g1 g2 k)
  have GL:=hid gl
  have K1':=K1.out
  have K2':=K2.out
  have K3':=K3.out
  rw[gl] at K1'
  rw[g1] at K2'
  rw[g2] at K3'
  have K1:=hid K1'
  have K2:=hid K2'
  have K3:=hid K3'
  clear K1' K2' K3' gl g1 g2 hg
  have e0:W.cell? ⟨w.heap.size,0,none⟩=some (.int .i64 a):=IB.cell S0.out.H 0 az
  have e1:W.cell? ⟨w.heap.size,1,none⟩=some (.int .i64 b):=IB.cell S0.out.H 1 az
  have e2:W.cell? ⟨w.heap.size,2,none⟩=some (.int .i64 c):=IB.cell S0.out.H 2 az
  have e3:W.cell? ⟨w.heap.size,3,none⟩=some (.int .i64 d):=IB.cell S0.out.H 3 az
  have HLT:=hid S0.out.lt
  go_enter Tryz.func48,Tryz.ntmps48
  go_wp2_with(first
   |(rw[<-HW.out])
   |(go_at_call 70;(with_reducible refine K1.out.mono ?_);rintro e w' ⟨rfl,rfl⟩)
   |(go_at_call 70;(with_reducible refine K2.out.mono ?_);rintro e w' ⟨rfl,rfl⟩)
   |(go_at_call 70;(with_reducible refine K3.out.mono ?_);rintro e w' ⟨rfl,rfl⟩)
   |(at_builtin;refine oQ rfl (.tmp 34) (.tmp 35) rfl (w.heap.size+2) (some ⟨W.heap.size,0,none⟩) 2 2 [b,a] rfl rfl (TV W b a _ HLT.out) W.heap.size A0 c0 n l rfl HN.out (RL.out.below ((aA _ _).alloc (al0z _) _)) ah (by simp;have:=HLT.out;omega) ?_;intro A2 c2 w5 hO hG hA;have O5:=hid hO;have S5:=hid ((S0.out.alloc _).grown (TV W b a _ HLT.out) hG);clear hO hG hA e0 e1 e2 e3;have e2:w5.cell? ⟨w.heap.size,2,none⟩=some (.int .i64 c):=IB.cell S5.out.H 2 az;have e3:w5.cell? ⟨w.heap.size,3,none⟩=some (.int .i64 d):=IB.cell S5.out.H 3 az;obtain⟨gx,rfl,hx1,hx2⟩:=O5.out.head az;have HX1:=hid hx1;have HX2:=hid hx2;clear hx1 hx2;obtain⟨nx,hnx⟩:∃nx,nx=2+n:=⟨_,rfl⟩;rw[<-hnx];have NX:=hid hnx;clear hnx))
  have Z0:=hid (show Hr w (w5.alloc (.cells #[.int .i64 d,.int .i64 c] 3)) [a,b,c,d] gx c2 ([b,a]++l) w5.heap.size 2 [d,c] from⟨S5.out.alloc _,O5.out.alloc _,TV w5 d c _ HX2.out,HX1.out,HX2.out,az⟩)
  clear e2 e3 K1 K2 K3 S0 RL HW HLT S5 O5
  have XL:=hid (show([b,a]++l).length=nx by rw[gu,HN.out,NX.out];rfl)
  go_loopw[8,46] (fun ov iv wr=> ∃(k ny gy cy:Nat) (h0 h1 h2 h3:Int) (ys:List Int),k<=n/\iv=.int .i64 k/\ov=.slice (some ⟨gy,0,none⟩) ny cy/\Hid (ny=k+2)/\Hid (hiN l a b c d k=((h0,h1,h2,h3),ys))/\Hid (Hr w wr [a,b,c,d] gx c2 ([b,a]++l) gy cy ([d,c]++ys))) (fun _ iv _=>n-(intOf iv).toNat)
  case atStart=>exact⟨0,2,_,2,a,b,c,d,[],ah,rfl,rfl,hid rfl,hid rfl,Z0⟩
  case round=>
   clear Z0
   obtain⟨k,ny,gy,cy,h0,h1,h2,h3,ys,hk,rfl,rfl,NY,HY,HS⟩:=hrel
   have YL:=hid (show([d,c]++ys).length=ny by have:=Jl l a b c d k;rw[HY.out] at this;rw[NY.out,gu,this];simp;omega)
   have vx:=ajB l a b c d k
   have vy:=ajC l a b c d k
   rw[HY.out] at vx vy
   dsimp only at vx vy
   obtain⟨j1,hj1⟩:∃j1:Nat,j1=k+1:=⟨_,rfl⟩
   rw[<-hj1] at vx vy
   have cx0:wr.cell? ⟨gx,k,none⟩=some (.int .i64 h1):=by rw[HS.out.X.cell k (by rw[XL.out,NX.out];omega),vx.2]
   have cx1:wr.cell? ⟨gx,j1,none⟩=some (.int .i64 h0):=by rw[HS.out.X.cell j1 (by rw[XL.out,NX.out];omega),vx.1]
   have cy0:wr.cell? ⟨gy,k,none⟩=some (.int .i64 h3):=by rw[HS.out.Y.cell k (by rw[YL.out,NY.out];omega),vy.2]
   have cy1:wr.cell? ⟨gy,j1,none⟩=some (.int .i64 h2):=by rw[HS.out.Y.cell j1 (by rw[YL.out,NY.out];omega),vy.1]
   have hwj1:IntKind.i64.wrap ((k:Int)+1)=(j1:Nat):=aN
   have b1:(j1:Int)<nx:=by have:=NX.out;omega
   have b0:(k:Int)<nx:=by have:=NX.out;omega
   have d1:(j1:Int)<ny:=Fe
   have d0:(k:Int)<ny:=Fe
   clear vx vy
   by_cases hlt:k<n
   ·obtain⟨j2,hj2⟩:∃j2:Nat,j2=k+2:=⟨_,rfl⟩
    obtain⟨x,hx⟩:∃x,x=l.getD k 0:=⟨_,rfl⟩
    have cx2:wr.cell? ⟨gx,j2,none⟩=some (.int .i64 x):=by rw[HS.out.X.cell j2 (by rw[XL.out,NX.out];omega),TZ _ _ _ k aJ,hx]
    have hwj2:IntKind.i64.wrap ((k:Int)+2)=(j2:Nat):=aN
    have b2:(j2:Int)<nx:=by have:=NX.out;omega
    have xb:=fP GL.out k
    have gn:=GN.out k
    rw[HY.out] at gn
    dsimp only at gn
    have HY2:=hid (show hiN l a b c d (k+1)=((l.getD k 0,h0,hiY h0 h1 h2 h3 (l.getD k 0),h2),ys++[hiY h0 h1 h2 h3 (l.getD k 0)]) by rw[hiN,HY.out])
    rw[<-hx] at xb HY2
    unfold hiY wF at*
    obtain⟨x1,x2⟩:=xb
    obtain⟨⟨g1,g2⟩,⟨g3,g4⟩,⟨g5,g6⟩,g7,g8⟩:=gn
    have hw1:IntKind.i64.wrap (2*h0)=2*h0:=aN
    have hw2:IntKind.i64.wrap (x-2*h0)=x-2*h0:=aN
    have hw3:IntKind.i64.wrap (x-2*h0+h1)=x-2*h0+h1:=aN
    have hw4:IntKind.i64.wrap (3798*(x-2*h0+h1))=3798*(x-2*h0+h1):=aN
    have hw5:IntKind.i64.wrap (7807*h2)=7807*h2:=aN
    have hw6:IntKind.i64.wrap (3798*(x-2*h0+h1)+7807*h2)=3798*(x-2*h0+h1)+7807*h2:=aN
    have hw7:IntKind.i64.wrap (3733*h3)=3733*h3:=aN
    obtain⟨s,hs⟩:∃s,s=3798*(x-2*h0+h1)+7807*h2-3733*h3:=⟨_,rfl⟩
    have hw8:IntKind.i64.wrap (3798*(x-2*h0+h1)+7807*h2-3733*h3)=s:=by rw[oJ,hs];omega
    have hw9:IntKind.i64.wrap (s+2048)=s+2048:=aN
    have KD:=hid (fun W=>F5 (s+2048) W ah ah)
    obtain⟨z,hz⟩:∃z,z=(s+2048)/4096:=⟨_,rfl⟩
    rw[<-hz] at KD
    have KS:=hid (fun W=>qH z W ah ah)
    obtain⟨y,hy⟩:∃y,y=s16 z:=⟨_,rfl⟩
    rw[show(3798*x-7596*h0+3798*h1+7807*h2-3733*h3+2048)/4096=z by rw[hz,hs];congr 1;omega,<-hy] at HY2
    rw[<-hy] at KS
    have HJ1:=hid hj1
    clear x1 x2 g1 g2 g3 g4 g5 g6 g7 g8 hR hy hz hs hx hj1 hj2
    go_wp2_with fail
    go_region
    try simp only[Exit.then]
    clear hw1 hw2 hw3 hw4 hw5 hw6 hw7 hw8 cx0 cx1 cx2 cy0 cy1 b0 b1 b2 d0 d1 hwj1 hwj2
    go_wp2_with fail
    refine(KD.out _).mono ?_
    rintro e w9 ⟨rfl,hB⟩
    have S1:=hid (HS.out.drew.below hB)
    clear hB HS
    go_wp2_with fail
    refine(KS.out _).mono ?_
    rintro e w10 ⟨rfl,hB⟩
    have S2:=hid (S1.out.below hB)
    clear hB S1
    go_wp2_with(at_builtin;refine vP rfl (.tmp 80) (.tmp 85) rfl (gx+1) (some ⟨gy,0,none⟩) cy ny ([d,c]++ys) rfl YL.out (S2.out.Y.alloc _) ⟨w10.heap.size,0,none⟩ y rfl (mW w10 _ _) Fe (by have h1:=S2.out.ly;have h2:=S2.out.ty;simp;omega) ?_;intro A3 c3 w6 hO hG hA;have O6:=hid hO;have G6:=hid hG;clear hO hG hA;obtain⟨g3,rfl,S6⟩:=(S2.out.alloc _).grown G6.out O6.out;have S6:=hid S6;clear O6 G6)
    go_wp2
    go_roundw
    case rel=>exact⟨k+1,ny+1,g3,c3,_,_,_,_,_,ah,aO,rfl,hid Fe,HY2,hid (by have:=S6.out;rwa [mG] at this)⟩
    case measure=>simp[intOf]<;>omega
   obtain rfl:k=n:=ah
   have r0:wr.cell? ⟨w.heap.size+1,0,none⟩=some (.int .i64 0):=IB.cell HS.out.B.R 0 aB
   have r1:wr.cell? ⟨w.heap.size+1,1,none⟩=some (.int .i64 0):=IB.cell HS.out.B.R 1 aB
   have r2:wr.cell? ⟨w.heap.size+1,2,none⟩=some (.int .i64 0):=IB.cell HS.out.B.R 2 aB
   have r3:wr.cell? ⟨w.heap.size+1,3,none⟩=some (.int .i64 0):=IB.cell HS.out.B.R 3 aB
   have f0:wr.frozen? ⟨w.heap.size+1,0,none⟩=false:=Blk.frozen HS.out.B.R 0
   have f1:wr.frozen? ⟨w.heap.size+1,1,none⟩=false:=Blk.frozen HS.out.B.R 1
   have f2:wr.frozen? ⟨w.heap.size+1,2,none⟩=false:=Blk.frozen HS.out.B.R 2
   have f3:wr.frozen? ⟨w.heap.size+1,3,none⟩=false:=Blk.frozen HS.out.B.R 3
   have hc1:2<=ny:=Fe
   have hc2:ny<=cy:=by have:=HS.out.Y.cap.1;rw[YL.out] at this;exact this
   have HC2:=hid hc2
   have hne1:w.heap.size+1≠gx:=by have:=HX1.out;omega
   have hne2:w.heap.size+1≠gy:=by have:=HX1.out;have:=HS.out.ly;omega
   have IR:=hid (Blk.drew (IB.set4 HS.out.B.R h0 h1 h2 h3))
   have OR:=hid ((HS.out.Y.set4 (g:=w.heap.size+1) (by have:=HX1.out;omega) h0 h1 h2 h3).drew)
   have BR:=hid (Rz HS.out.B.bel (g:=w.heap.size+1) ah h0 h1 h2 h3).drew
   have HJ1:=hid hj1
   clear hj1 hlt
   have RD:=OR.out.reads.drop (k:=2) (cap:=cy) az (by rw[YL.out];exact hc2)
   rw[Option.map_some,lI] at RD
   have RD:=hid RD
   have YS:=hid (show ys.length=ny-2 by rw[<-YL.out];simp)
   go_wp2_with fail
   go_region
   clear cx0 cx1 cy0 cy1 r0 r1 r2 r3 f0 f1 f2 f3 hne1 hne2 hc1 hc2
   have RD':=RD.out
   clear RD
   generalize (if cy=2 then some (⟨gy,0,none⟩:Addr) else some ⟨gy,2,none⟩)=AA at RD'|-
   have RD:=hid RD'
   clear RD'
   simp only[Exit.then]
   go_wp2
   refine bg (v:=_) (hR _ _ _ 44 [h0,h1,h2,h3] _ 4 rfl IR.out Tryz.underlying44 rfl yU rfl) rfl ?_
   rw[HY.out]
   exact⟨_,_,by rw[YS.out];rfl,RD.out,BR.out,by rw[YS.out];have:=HC2.out;omega⟩
 ·have hA:hiA l a b c d n=([0,0,0,0],[],false):=by unfold hiA;rw[if_neg hg]
  rw[hA]
  clear hA
  have r0:W.cell? ⟨w.heap.size+1,0,none⟩=some (.int .i64 0):=IB.cell S0.out.R 0 aB
  have r1:W.cell? ⟨w.heap.size+1,1,none⟩=some (.int .i64 0):=IB.cell S0.out.R 1 aB
  have r2:W.cell? ⟨w.heap.size+1,2,none⟩=some (.int .i64 0):=IB.cell S0.out.R 2 aB
  have r3:W.cell? ⟨w.heap.size+1,3,none⟩=some (.int .i64 0):=IB.cell S0.out.R 3 aB
  have f0:W.frozen? ⟨w.heap.size+1,0,none⟩=false:=Blk.frozen S0.out.R 0
  have f1:W.frozen? ⟨w.heap.size+1,1,none⟩=false:=Blk.frozen S0.out.R 1
  have f2:W.frozen? ⟨w.heap.size+1,2,none⟩=false:=Blk.frozen S0.out.R 2
  have f3:W.frozen? ⟨w.heap.size+1,3,none⟩=false:=Blk.frozen S0.out.R 3
  have IR:=hid (IB.set4 S0.out.R 0 0 0 0)
  have BR:=hid (Rz S0.out.bel (g:=w.heap.size+1) ah 0 0 0 0)
  have FIN:=hid (show JZ w [] [0,0,0,0] (aZ false) (.returned (.tuple #[.slice none 0 0,.agg (agi [0,0,0,0]),.int .i64 2])) ((((W.setCell ⟨w.heap.size+1,0,none⟩ (.int .i64 0)).setCell ⟨w.heap.size+1,1,none⟩ (.int .i64 0)).setCell ⟨w.heap.size+1,2,none⟩ (.int .i64 0)).setCell ⟨w.heap.size+1,3,none⟩ (.int .i64 0)) from⟨none,0,rfl,Rs.nil,BR.out,al0z _⟩)
  unfold yT at hg
  cases gl:aG l with
  |false=>
    rw[gl] at K1
    clear K2 K3 hg S0
    exact l25
  |true=>
   rw[gl] at K1 hg
   cases g1:aG [a,b] with
   |false=>
     rw[g1] at K2
     clear K3 hg S0
     exact l25
   |true=>
    rw[g1] at K2 hg
    cases g2:aG [c,d] with
    |false=>
     rw[g2] at K3
     clear hg S0
     exact l25
    |true=>rw[g2] at hg;simp at hg
end Go.Proofs.YthoiikkjjaldnaaGreatDoor
