/- Texts that the law rests on, laid together: HighW, QuiC, PkU, Ord, StepI. -/
import Derived.Test.YthoiikkjjaldnaaDoorZ718584
import Derived.Test.YthoiikkjjaldnaaDoorZbe9dc0
import Derived.Test.YthoiikkjjaldnaaDoorZ7e0d48
import Derived.BigQuiet
import Derived.Deep.QuietTactic
import Derived.Test.YthoiikkjjaldnaaDoorZ306d7b
import Derived.Test.YthoiikkjjaldnaaDoorZ111339
import Derived.StillTail
import Derived.Deep.MidRow
import Derived.Test.YthoiikkjjaldnaaDoorZ4df1bd
set_option maxHeartbeats 4000000
namespace Go.Proofs.YthoiikkjjaldnaaDoor
set_option linter.unusedVariables false
set_option linter.unusedSimpArgs false
set_option maxRecDepth 100000
open Go.RowKit
def hiY (a b c d x:Int):Int:=s16 ((3798*x-7596*a+3798*b+7807*c-3733*d+2048)/4096)
def hiN (l:List Int) (a b c d:Int):Nat->(Int×Int×Int×Int)×List Int
 |0=>((a,b,c,d),[])
 |k+1=>((l.getD k 0,(hiN l a b c d k).1.1,hiY (hiN l a b c d k).1.1 (hiN l a b c d k).1.2.1 (hiN l a b c d k).1.2.2.1 (hiN l a b c d k).1.2.2.2 (l.getD k 0),(hiN l a b c d k).1.2.2.1),
   (hiN l a b c d k).2++[hiY (hiN l a b c d k).1.1 (hiN l a b c d k).1.2.1 (hiN l a b c d k).1.2.2.1 (hiN l a b c d k).1.2.2.2 (l.getD k 0)])
def hiOk (a b c d:Int) (l:List Int):Bool:=all16 l&&(all16 [a,b]&&all16 [c,d])
def In16x (x:Int):Prop:= -32768<=x/\x<=32767
theorem s16_in (x:Int):In16x (s16 x):=by
 unfold s16 lim In16x
 repeat' split
 all_goals omega
theorem hiN_len (l:List Int) (a b c d:Int) (k:Nat):(hiN l a b c d k).2.length=k:=by
 induction k with
 |zero=>rfl
 |succ k ih=>simp only[hiN,List.length_append,ih];rfl
theorem hiN_in {l:List Int} {a b c d:Int} (hl:all16 l=true) (h1:all16 [a,b]=true) (h2:all16 [c,d]=true) (k:Nat):
 In16x (hiN l a b c d k).1.1/\In16x (hiN l a b c d k).1.2.1/\In16x (hiN l a b c d k).1.2.2.1/\In16x (hiN l a b c d k).1.2.2.2:=by
 induction k with
 |zero=>exact⟨all16_at h1 0,all16_at h1 1,all16_at h2 0,all16_at h2 1⟩
 |succ k ih=>exact⟨all16_at hl k,ih.1,s16_in _,ih.2.2.1⟩
structure Hx (w wr:World) (h:List Int):Prop where
 H:IB wr w.heap.size 25 h
 R:IB wr (w.heap.size+1) 25 [0,0,0,0]
 bel:Below w.heap.size w wr
theorem Hx.lt {w wr:World} {h:List Int} (s:Hx w wr h):w.heap.size+2<=wr.heap.size:=Blk.lt s.R
theorem Hx.start (w:World) (h:List Int):Hx w ((w.alloc (.cells (agi h) 25)).alloc (.cells (agi [0,0,0,0]) 25)) h:=by
 have h1:=IB.new w 25 h
 have h2:=IB.new (w.alloc (.cells (agi h) 25)) 25 [0,0,0,0]
 simp only[World.size_alloc] at h2
 exact⟨Blk.alloc h1 _,h2,((Below.refl _ _).alloc (Nat.le_refl _) _).alloc (by simp) _⟩
theorem Hx.alloc {w wr:World} {h:List Int} (s:Hx w wr h) (o:Obj):Hx w (wr.alloc o) h:=
 ⟨Blk.alloc s.H o,Blk.alloc s.R o,s.bel.alloc (by have:=s.lt;omega) o⟩
theorem Hx.drew {w wr:World} {h:List Int} (s:Hx w wr h):Hx w wr.drew h:=⟨s.H,s.R,s.bel.drew⟩
theorem Hx.grown {w wr wr':World} {h xs:List Int} {A:Option Addr} {c:Nat} (s:Hx w wr h) (hO:Own wr (w.heap.size+2) A c xs) (hG:wr.grownBy wr' (A.map (·.block))):Hx w wr' h:=
 ⟨Blk.grownA s.H hG (hO.ne_ (by omega)),Blk.grownA s.R hG (hO.ne_ (by omega)),below_grown s.bel (hO.more (by omega)) hG (by have:=s.lt;omega)⟩
theorem Hx.set {w wr:World} {h:List Int} (s:Hx w wr h) (i:Nat) (x:Int):Hx w (wr.setCell ⟨w.heap.size,i,none⟩ (.int .i64 x)) (h.set i x):=
 ⟨IB.set_ s.H i x,Blk.far s.R (by simp) _,s.bel.setCell (by simp) _⟩
theorem Hx.set4 {w wr:World} {a b c d:Int} (s:Hx w wr [a,b,c,d]) (x0 x1 x2 x3:Int):
 Hx w ((((wr.setCell ⟨w.heap.size,0,none⟩ (.int .i64 x0)).setCell ⟨w.heap.size,1,none⟩ (.int .i64 x1)).setCell ⟨w.heap.size,2,none⟩ (.int .i64 x2)).setCell ⟨w.heap.size,3,none⟩ (.int .i64 x3)) [x0,x1,x2,x3]:=
 (((s.set 0 x0).set 1 x1).set 2 x2).set 3 x3
theorem z4_eq:agi [0,0,0,0]= #[.int .i64 0,.int .i64 0,.int .i64 0,.int .i64 0]:=rfl
theorem size4:(Tryd.prog.info? 25).map (·.size)=some 4:=by kernel_rfl
theorem Own.set4 {w:World} {base c g:Nat} {A:Option Addr} {xs:List Int} (h:Own w base A c xs) (hg:g<base) (x0 x1 x2 x3:Int):
 Own ((((w.setCell ⟨g,0,none⟩ (.int .i64 x0)).setCell ⟨g,1,none⟩ (.int .i64 x1)).setCell ⟨g,2,none⟩ (.int .i64 x2)).setCell ⟨g,3,none⟩ (.int .i64 x3)) base A c xs:=
 (((h.setC hg 0 _).setC hg 1 _).setC hg 2 _).setC hg 3 _
theorem IB.set4 {w:World} {g:Nat} {t:TypeId} {a b c d:Int} (h:IB w g t [a,b,c,d]) (x0 x1 x2 x3:Int):
 IB ((((w.setCell ⟨g,0,none⟩ (.int .i64 x0)).setCell ⟨g,1,none⟩ (.int .i64 x1)).setCell ⟨g,2,none⟩ (.int .i64 x2)).setCell ⟨g,3,none⟩ (.int .i64 x3)) g t [x0,x1,x2,x3]:=
 IB.set_ (IB.set_ (IB.set_ (IB.set_ h 0 x0) 1 x1) 2 x2) 3 x3
theorem below_set4 {B g:Nat} {w0 w:World} (h:Below B w0 w) (hg:B<=g) (x0 x1 x2 x3:Int):
 Below B w0 ((((w.setCell ⟨g,0,none⟩ (.int .i64 x0)).setCell ⟨g,1,none⟩ (.int .i64 x1)).setCell ⟨g,2,none⟩ (.int .i64 x2)).setCell ⟨g,3,none⟩ (.int .i64 x3)):=
 (((h.setCell hg _).setCell hg _).setCell hg _).setCell hg _
theorem rs_two {w:World} {g o B:Nat} {x y:Int} (h0:w.cell? ⟨g,o,none⟩=some (.int .i64 x)) (h1:w.cell? ⟨g,o+1,none⟩=some (.int .i64 y)) (hg:g<B):Rs w B (some ⟨g,o,none⟩) [x,y]:=
 ⟨by simp[ints],fun _=>⟨_,rfl,hg,fun j u hu=>by
   have hj:j<2:=by
    have:=(List.getElem?_eq_some_iff.mp hu).1
    rwa [ints_len] at this
   rw[ints_get [x,y] j hj] at hu
   rw[<-hu]
   match j,hj with
   |0,_=>exact h0
   |1,_=>exact h1⟩⟩
def hiA (l:List Int) (a b c d:Int) (n:Nat):List Int×List Int×Bool:=
 if hiOk a b c d l then([(hiN l a b c d n).1.1,(hiN l a b c d n).1.2.1,(hiN l a b c d n).1.2.2.1,(hiN l a b c d n).1.2.2.2],(hiN l a b c d n).2,true) else([0,0,0,0],[],false)
theorem frontHigh_any (a b c d:Int) (l:List Int) (A0:Option Addr) (c0 n:Nat) (w:World) (hr:Rs w w.heap.size A0 l) (hn:l.length=n) (hl:n<=17592186044000):
 Calls Tryd.prog 24 #[.agg (agi [a,b,c,d]),.slice A0 n c0] w (NewSP w (hiA l a b c d n).2.1 (hiA l a b c d n).1 (errOf (hiA l a b c d n).2.2)):=by
 have hR:=results_mid3 (fn:=Tryd.f24) (p:=4) (q:=5) (r:=6) (ty:=25) rfl
 have S0:=Hx.start w [a,b,c,d]
 rw[z4_eq] at S0
 have S0:=hid S0
 have R0:=hid (hr.below S0.out.bel)
 have HN:=hid hn
 have HR:=hid hr
 have KL:=hid (fun(W:World) (h:Rs W W.heap.size A0 l)=>frontright_any A0 c0 n W.heap.size l W h hn (by omega))
 have KX:=hid (fun(W:World) (h:Rs W W.heap.size (some ⟨w.heap.size,0,none⟩) [a,b])=>frontright_any _ 2 2 W.heap.size [a,b] W h rfl (by omega))
 have KY:=hid (fun(W:World) (h:Rs W W.heap.size (some ⟨w.heap.size,2,none⟩) [c,d])=>frontright_any _ 2 2 W.heap.size [c,d] W h rfl (by omega))
 have k0: ∀W,Hx w W [a,b,c,d]->W.cell? ⟨w.heap.size,0,none⟩=some (.int .i64 a):=fun W s=>IB.cell s.H 0 (by simp)
 have RX:=hid (rs_two (IB.cell S0.out.H 0 (by simp)) (IB.cell S0.out.H 1 (by simp)) (Blk.lt S0.out.H))
 have RY:=hid (rs_two (IB.cell S0.out.H 2 (by simp)) (IB.cell S0.out.H 3 (by simp)) (Blk.lt S0.out.H))
 have RL:=hid (R0.out.more (show w.heap.size<=_ from S0.out.bel.size))
 clear hn hr k0 R0
 have K1:=hid (KL.out _ RL.out)
 have K2:=hid (KX.out _ RX.out)
 have K3:=hid (KY.out _ RY.out)
 clear KL KX KY RX RY RL
 by_cases hg:hiOk a b c d l=true
 ·obtain⟨gl,g1,g2⟩:all16 l=true/\all16 [a,b]=true/\all16 [c,d]=true:=by simpa[hiOk] using hg
  unfold hiA
  rw[if_pos hg]
  have GN:=hid (fun k=>hiN_in gl g1 g2 k)
  have GL:=hid gl
  have K1':=K1.out
  have K2':=K2.out
  have K3':=K3.out
  rw[gl] at K1'
  rw[g1] at K2'
  rw[g2] at K3'
  have K1:=hid K1'
  have K2:=hid K2'
  have K3:=hid K3'
  clear K1' K2' K3' gl g1 g2 hg
  go_enter Tryd.func24,Tryd.ntmps24
  go_wp2_with (first
   |(go_at_call 42;(with_reducible refine K1.out.mono ?_);rintro e w' ⟨rfl,rfl⟩)
   |(go_at_call 42;(with_reducible refine K2.out.mono ?_);rintro e w' ⟨rfl,rfl⟩)
   |(go_at_call 42;(with_reducible refine K3.out.mono ?_);rintro e w' ⟨rfl,rfl⟩))
  have S0':=S0
  clear K1 K2 K3 S0
  go_loopw [7,30] (fun ov iv wr=> ∃(k:Nat) (A:Option Addr) (cc:Nat) (h0 h1 h2 h3:Int) (ys:List Int),k<=n/\iv= .int .i64 k/\ov= .slice A k cc/\Hid (hiN l a b c d k=((h0,h1,h2,h3),ys))/\Hid (Own wr (w.heap.size+2) A cc ys)/\Hid (Hx w wr [h0,h1,h2,h3])) (fun _ iv _=>n-(intOf iv).toNat)
  case atStart=>exact⟨0,none,0,a,b,c,d,[],by omega,rfl,rfl,hid rfl,hid Own.nil,S0'⟩
  case round=>
   clear S0'
   obtain⟨k,A,cc,h0,h1,h2,h3,ys,hk,rfl,rfl,HY,HO,HS⟩:=hrel
   have YL:=hid (show ys.length=k by have:=hiN_len l a b c d k;rw[HY.out] at this;exact this)
   have e0:wr.cell? ⟨w.heap.size,0,none⟩=some (.int .i64 h0):=IB.cell HS.out.H 0 (by simp)
   have e1:wr.cell? ⟨w.heap.size,1,none⟩=some (.int .i64 h1):=IB.cell HS.out.H 1 (by simp)
   have e2:wr.cell? ⟨w.heap.size,2,none⟩=some (.int .i64 h2):=IB.cell HS.out.H 2 (by simp)
   have e3:wr.cell? ⟨w.heap.size,3,none⟩=some (.int .i64 h3):=IB.cell HS.out.H 3 (by simp)
   by_cases hlt:k<n
   ·obtain⟨ad,rfl,hadb,c1⟩:=(HR.out.below HS.out.bel).at_ (k:=k) (by rw[HN.out];exact hlt)
    have xb:=all16_at GL.out k
    have gn:=GN.out k
    rw[HY.out] at gn
    dsimp only at gn
    have HY2:=hid (show hiN l a b c d (k+1)=((l.getD k 0,h0,hiY h0 h1 h2 h3 (l.getD k 0),h2),ys++[hiY h0 h1 h2 h3 (l.getD k 0)]) by rw[hiN,HY.out])
    obtain⟨x,hx⟩: ∃x,x=l.getD k 0:=⟨_,rfl⟩
    rw[<-hx] at c1 xb HY2
    unfold hiY In16x at*
    obtain⟨x1,x2⟩:=xb
    obtain⟨⟨g1,g2⟩,⟨g3,g4⟩,⟨g5,g6⟩,g7,g8⟩:=gn
    have f0:wr.frozen? ⟨w.heap.size,0,none⟩=false:=Blk.frozen HS.out.H 0
    have f1:wr.frozen? ⟨w.heap.size,1,none⟩=false:=Blk.frozen HS.out.H 1
    have f2:wr.frozen? ⟨w.heap.size,2,none⟩=false:=Blk.frozen HS.out.H 2
    have f3:wr.frozen? ⟨w.heap.size,3,none⟩=false:=Blk.frozen HS.out.H 3
    clear hx
    have hw1:IntKind.i64.wrap (3798*x)=3798*x:=by rw[IntKind.wrap_i64];omega
    have hw2:IntKind.i64.wrap (7596*h0)=7596*h0:=by rw[IntKind.wrap_i64];omega
    have hw3:IntKind.i64.wrap (3798*h1)=3798*h1:=by rw[IntKind.wrap_i64];omega
    have hw4:IntKind.i64.wrap (7807*h2)=7807*h2:=by rw[IntKind.wrap_i64];omega
    have hw5:IntKind.i64.wrap (3733*h3)=3733*h3:=by rw[IntKind.wrap_i64];omega
    have hw6:IntKind.i64.wrap (3798*x-7596*h0)=3798*x-7596*h0:=by rw[IntKind.wrap_i64];omega
    have hw7:IntKind.i64.wrap (3798*x-7596*h0+3798*h1)=3798*x-7596*h0+3798*h1:=by rw[IntKind.wrap_i64];omega
    have hw8:IntKind.i64.wrap (3798*x-7596*h0+3798*h1+7807*h2)=3798*x-7596*h0+3798*h1+7807*h2:=by rw[IntKind.wrap_i64];omega
    have hw9:IntKind.i64.wrap (3798*x-7596*h0+3798*h1+7807*h2-3733*h3)=3798*x-7596*h0+3798*h1+7807*h2-3733*h3:=by rw[IntKind.wrap_i64];omega
    have hw10:IntKind.i64.wrap (3798*x-7596*h0+3798*h1+7807*h2-3733*h3+2048)=3798*x-7596*h0+3798*h1+7807*h2-3733*h3+2048:=by rw[IntKind.wrap_i64];omega
    clear x1 x2 g1 g2 g3 g4 g5 g6 g7 g8 hR
    obtain⟨y,hy⟩: ∃y,y=s16 ((3798*x-7596*h0+3798*h1+7807*h2-3733*h3+2048)/4096):=⟨_,rfl⟩
    rw[<-hy] at HY2
    have KS:=hid (fun W=>frontsat_any ((3798*x-7596*h0+3798*h1+7807*h2-3733*h3+2048)/4096) W)
    rw[<-hy] at KS
    clear hy
    obtain⟨w4,hw4⟩: ∃w4,w4=((((wr.setCell ⟨w.heap.size,0,none⟩ (.int .i64 x)).setCell ⟨w.heap.size,1,none⟩ (.int .i64 h0)).setCell ⟨w.heap.size,2,none⟩ (.int .i64 y)).setCell ⟨w.heap.size,3,none⟩ (.int .i64 h2)):=⟨_,rfl⟩
    have S4:=hid (show Hx w w4 [x,h0,y,h2] from hw4▸HS.out.set4 x h0 y h2)
    have O4:=hid (show Own w4 (w.heap.size+2) A cc ys from hw4▸HO.out.set4 (g:=w.heap.size) (by omega) x h0 y h2)
    have HW4:=hid hw4
    have HCN:=hid (show(w4.alloc (.cells #[.int .i64 y] 3)).cell? ⟨wr.heap.size,0,none⟩=some (.int .i64 y) from by rw[show wr.heap.size=w4.heap.size from by rw[hw4];simp];exact cell_new w4 _ _)
    clear hw4
    go_wp2_with (first
     |(go_at_call 43;(with_reducible refine(KS.out _).mono ?_);rintro e w' ⟨rfl,rfl⟩;clear hw1 hw2 hw3 hw4 hw5 hw6 hw7 hw8 hw9 hw10)
     |(at_builtin;rw[<-HW4.out];refine wpList_pushN rfl (.tmp 76) (.tmp 78) rfl (w.heap.size+2) A cc k ys rfl YL.out (O4.out.alloc _) ⟨wr.heap.size,0,none⟩ y rfl HCN.out (by omega) (Nat.le_trans S4.out.lt (by simp)) ?_;intro A2 c2 w5 hO hG hA;have O5:=hid hO;have G5:=hid hG;clear hO hG hA))
    have S5:=hid ((S4.out.alloc _).grown (O4.out.alloc _) G5.out)
    go_wp2
    go_roundw
    case rel=>exact⟨k+1,A2,c2,_,_,_,_,_,by omega,by go_num,rfl,HY2,O5,S5⟩
    case measure=>simp[intOf]<;>omega
   ·obtain rfl:k=n:=by omega
    have r0:wr.cell? ⟨w.heap.size+1,0,none⟩=some (.int .i64 0):=IB.cell HS.out.R 0 (by decide)
    have r1:wr.cell? ⟨w.heap.size+1,1,none⟩=some (.int .i64 0):=IB.cell HS.out.R 1 (by decide)
    have r2:wr.cell? ⟨w.heap.size+1,2,none⟩=some (.int .i64 0):=IB.cell HS.out.R 2 (by decide)
    have r3:wr.cell? ⟨w.heap.size+1,3,none⟩=some (.int .i64 0):=IB.cell HS.out.R 3 (by decide)
    have f0:wr.frozen? ⟨w.heap.size+1,0,none⟩=false:=Blk.frozen HS.out.R 0
    have f1:wr.frozen? ⟨w.heap.size+1,1,none⟩=false:=Blk.frozen HS.out.R 1
    have f2:wr.frozen? ⟨w.heap.size+1,2,none⟩=false:=Blk.frozen HS.out.R 2
    have f3:wr.frozen? ⟨w.heap.size+1,3,none⟩=false:=Blk.frozen HS.out.R 3
    have IR:=hid (Blk.drew (IB.set4 HS.out.R h0 h1 h2 h3))
    have OR:=hid ((HO.out.set4 (g:=w.heap.size+1) (by omega) h0 h1 h2 h3).drew.more (base':=w.heap.size) (by omega))
    have BR:=hid (below_set4 HS.out.bel (g:=w.heap.size+1) (by omega) h0 h1 h2 h3).drew
    go_wp2
    go_region
    clear e0 e1 e2 e3 r0 r1 r2 r3 f0 f1 f2 f3
    simp only[Exit.then]
    go_wp2
    refine bodyPost_ret (v:=_) (hR _ _ _ 25 [h0,h1,h2,h3] _ 4 rfl IR.out Tryd.underlying25 rfl size4 rfl) rfl ?_
    rw[HY.out]
    exact⟨A,cc,by rw[YL.out];rfl,OR.out,BR.out⟩
 ·have hA:hiA l a b c d n=([0,0,0,0],[],false):=by unfold hiA;rw[if_neg hg]
  rw[hA]
  clear hA
  obtain⟨W,hW⟩: ∃W,W=(w.alloc (.cells (agi [a,b,c,d]) 25)).alloc (.cells #[.int .i64 0,.int .i64 0,.int .i64 0,.int .i64 0] 25):=⟨_,rfl⟩
  rw[<-hW] at K1 K2 K3 S0
  have r0:W.cell? ⟨w.heap.size+1,0,none⟩=some (.int .i64 0):=IB.cell S0.out.R 0 (by decide)
  have r1:W.cell? ⟨w.heap.size+1,1,none⟩=some (.int .i64 0):=IB.cell S0.out.R 1 (by decide)
  have r2:W.cell? ⟨w.heap.size+1,2,none⟩=some (.int .i64 0):=IB.cell S0.out.R 2 (by decide)
  have r3:W.cell? ⟨w.heap.size+1,3,none⟩=some (.int .i64 0):=IB.cell S0.out.R 3 (by decide)
  have f0:W.frozen? ⟨w.heap.size+1,0,none⟩=false:=Blk.frozen S0.out.R 0
  have f1:W.frozen? ⟨w.heap.size+1,1,none⟩=false:=Blk.frozen S0.out.R 1
  have f2:W.frozen? ⟨w.heap.size+1,2,none⟩=false:=Blk.frozen S0.out.R 2
  have f3:W.frozen? ⟨w.heap.size+1,3,none⟩=false:=Blk.frozen S0.out.R 3
  have IR:=hid S0.out.R
  have BR:=hid S0.out.bel
  have FIN:=hid (show NewSP w [] [0,0,0,0] (errOf false) (.returned (.tuple #[.slice none 0 0,.agg (agi [0,0,0,0]),.int .i64 2])) W from⟨none,0,rfl,Own.nil,BR.out⟩)
  unfold hiOk at hg
  cases gl:all16 l with
  |false=>
    rw[gl] at K1
    clear K2 K3 hg S0
    go_enter Tryd.func24,Tryd.ntmps24
    go_wp2_with (first
     |(rw[<-hW])
     |(go_at_call 42;(with_reducible refine K1.out.mono ?_);rintro e w' ⟨rfl,rfl⟩)
     |(go_at_call 42;(with_reducible refine K2.out.mono ?_);rintro e w' ⟨rfl,rfl⟩)
     |(go_at_call 42;(with_reducible refine K3.out.mono ?_);rintro e w' ⟨rfl,rfl⟩))
    refine bodyPost_ret (v:=_) (hR _ _ _ 25 [0,0,0,0] _ 4 rfl IR.out Tryd.underlying25 rfl size4 rfl) rfl ?_
    exact FIN.out
  |true=>
   rw[gl] at K1 hg
   cases g1:all16 [a,b] with
   |false=>
     rw[g1] at K2
     clear K3 hg S0
     go_enter Tryd.func24,Tryd.ntmps24
     go_wp2_with (first
      |(rw[<-hW])
      |(go_at_call 42;(with_reducible refine K1.out.mono ?_);rintro e w' ⟨rfl,rfl⟩)
      |(go_at_call 42;(with_reducible refine K2.out.mono ?_);rintro e w' ⟨rfl,rfl⟩)
      |(go_at_call 42;(with_reducible refine K3.out.mono ?_);rintro e w' ⟨rfl,rfl⟩))
     refine bodyPost_ret (v:=_) (hR _ _ _ 25 [0,0,0,0] _ 4 rfl IR.out Tryd.underlying25 rfl size4 rfl) rfl ?_
     exact FIN.out
   |true=>
    rw[g1] at K2 hg
    cases g2:all16 [c,d] with
    |false=>
     rw[g2] at K3
     clear hg S0
     go_enter Tryd.func24,Tryd.ntmps24
     go_wp2_with (first
      |(rw[<-hW])
      |(go_at_call 42;(with_reducible refine K1.out.mono ?_);rintro e w' ⟨rfl,rfl⟩)
      |(go_at_call 42;(with_reducible refine K2.out.mono ?_);rintro e w' ⟨rfl,rfl⟩)
      |(go_at_call 42;(with_reducible refine K3.out.mono ?_);rintro e w' ⟨rfl,rfl⟩))
     refine bodyPost_ret (v:=_) (hR _ _ _ 25 [0,0,0,0] _ 4 rfl IR.out Tryd.underlying25 rfl size4 rfl) rfl ?_
     exact FIN.out
    |true=>rw[g2] at hg;simp at hg
end Go.Proofs.YthoiikkjjaldnaaDoor
namespace Go.Proofs.YthoiikkjjaldnaaDoor
set_option linter.unusedVariables false
set_option linter.unusedSimpArgs false
set_option maxRecDepth 100000
open Go.RowKit
end Go.Proofs.YthoiikkjjaldnaaDoor
namespace Go.Proofs.YthoiikkjjaldnaaDoor
set_option linter.unusedVariables false
set_option linter.unusedSimpArgs false
set_option maxRecDepth 100000
open Go.RowKit
theorem dig_join (V e:Nat):V/2^(e+8)*256+digE V e=V/2^e:=by
 unfold digE
 rw[Nat.pow_add,<-Nat.div_div_eq_div_mul,show(2:Nat)^8=256 from rfl]
 omega
theorem nb_digL {V:Nat} (hV:V<2^112) (c:Int): ∀k,k<=14->nb (digL V++[c]) k=V/2^(8*(14-k))
 |0,_=>by
  rw[show 8*(14-0)=112 from rfl,Nat.div_eq_of_lt hV];rfl
 |k+1,hk=>by
  have ih:=nb_digL hV c k (by omega)
  have hd:(digL V++[c]).getD k 0=(digE V (8*(13-k)):Nat):=by
   rw[List.getD_eq_getElem?_getD,List.getElem?_append_left (by rw[digL_len];omega),digL_get V (by omega)];rfl
  simp only[nb]
  rw[ih,hd,show 8*(14-k)=8*(13-k)+8 by omega,show 14-(k+1)=13-k by omega]
  exact dig_join V _
section
variable {ps:List Int}
theorem pkBytes_yes (h:pkTo ps 25=true):pkBytes ps=digL (pkW ps)++[chk (digL (pkW ps))]:=if_pos h
theorem pkBytes_len (h:pkTo ps 25=true):(pkBytes ps).length=15:=by rw[pkBytes_yes h,List.length_append,digL_len];rfl
theorem unV_pack (h:pkTo ps 25=true):unV (pkBytes ps)=pkW ps:=by
 unfold unV
 rw[pkBytes_yes h,nb_digL (pkW_lt h) _ 14 (by omega)]
 simp
theorem pkX_div (h:pkTo ps 25=true): ∀d,d<=25->pkX ps (25-d)=pkW ps/2^(112-pkA (25-d))
 |0,_=>by
  have hq:pkQ ps<2:=Nat.mod_lt _ (by decide)
  rw[show 25-0=25 from rfl,pkA_end,pkW_eq h,show(112-106:Nat)=6 from rfl]
  omega
 |d+1,hd=>by
  have ih:=pkX_div h d (by omega)
  obtain⟨n,hn⟩: ∃n,25-(d+1)=n:=⟨_,rfl⟩
  have e:25-d=n+1:=by omega
  rw[hn]
  rw[e] at ih
  have hp:=(pk_lt h (n:=n) (by omega)).1
  have ha:=pkA_le (n:=n+1) (by omega)
  simp only[pkX,pkA] at ih ha
  have h1:pkX ps n=(pkX ps n*2^pkN n+(ps.getD n 0).toNat)/2^pkN n:=by
   rw[Nat.add_comm,Nat.add_mul_div_right _ _ (Nat.two_pow_pos _),Nat.div_eq_of_lt hp,Nat.zero_add]
  rw[h1,ih,Nat.div_div_eq_div_mul,<-Nat.pow_add,show 112-(pkA n+pkN n)+pkN n=112-pkA n by omega]
theorem uF_pack (h:pkTo ps 25=true) {n:Nat} (hn:n<25):uF (pkW ps) n=(ps.getD n 0).toNat:=by
 have h1:=pkX_div h (25-(n+1)) (by omega)
 rw[show 25-(25-(n+1))=n+1 by omega] at h1
 have hp:=(pk_lt h hn).1
 unfold uF gt
 rw[Nat.shiftRight_eq_div_pow,show 112-pkA n-pkN n=112-pkA (n+1) by simp only[pkA];omega,<-h1]
 simp only[pkX]
 rw[Nat.add_comm,Nat.add_mul_mod_self_right,Nat.mod_eq_of_lt hp]
theorem uL_pack (h:pkTo ps 25=true) (hl:ps.length=25):uL (pkW ps) 25=ps:=by
 refine list_ext (by rw[uL_len,hl]) fun k hk=>?_
 rw[uL_len] at hk
 unfold uL
 rw[map_range_get _ hk,if_pos hk,uF_pack h hk]
 exact(pk_lt h hk).2.symm
theorem pk_round (h:pkTo ps 25=true) (hl:ps.length=25):unE (pkBytes ps)=0/\unL (pkBytes ps)=ps:=by
 have e0:unE (pkBytes ps)=0:=by
  unfold unE
  rw[if_neg (by rw[pkBytes_len h];simp),if_neg,if_neg,if_neg,if_neg]
  ·rw[unV_pack h,uL_pack h hl,pkQ_eq]
   have hq:pkQ ps<2:=Nat.mod_lt _ (by decide)
   rw[pkW_eq h]
   have:(pkX ps 25*2+pkQ ps)*2^5/32%2=pkQ ps:=by omega
   rw[this]
   simp
  ·rw[unV_pack h,uL_pack h hl,h];simp
  ·rw[unV_pack h,pkW_eq h];omega
  ·rw[pkBytes_yes h,List.take_append_of_le_length (by rw[digL_len];omega),List.take_of_length_le (by rw[digL_len];omega)]
   rw[List.getD_eq_getElem?_getD,List.getElem?_append_right (by rw[digL_len];omega),digL_len]
   simp
 refine⟨e0,?_⟩
 unfold unL
 rw[if_pos e0,unV_pack h,uL_pack h hl]
end
end Go.Proofs.YthoiikkjjaldnaaDoor
namespace Go.Proofs.YthoiikkjjaldnaaDoor
set_option linter.unusedVariables false
set_option linter.unusedSimpArgs false
set_option maxRecDepth 100000
open Go.RowKit
def opsAt (ops:Array Oper):List Nat->List Oper
 |[]=>[]
 |i::r=>match ops[i]? with
  |some o=>o::opsAt ops r
  |none=>opsAt ops r
def opsIn (ops:Array Oper) (l:List Nat):Bool:=l.all (fun i=>decide (i<ops.size))
theorem opsAt_cons {ops:Array Oper} {i:Nat} {o:Oper} (h:ops[i]?=some o) (r:List Nat):opsAt ops (i::r)=o::opsAt ops r:=by simp only[opsAt,h]
def sinkL (md:Region.Mode) (ops:Array Oper) (s:Nat):List Nat->Bool
 |[]=>true
 |i::r=>(Region.waitsFor md ops s i||r.any (fun j=>Region.waitsFor md ops j i))&&sinkL md ops s r
def chainL (md:Region.Mode) (ops:Array Oper):List Nat->List Nat->Bool
 |_,[]=>true
 |seen,t::r=>seen.any (fun j=>Region.waitsFor md ops t j)&&chainL md ops (t::seen) r
def handsOn (ops:Array Oper) (i:Nat):Bool:=match ops[i]? with
 |some o=>match o.op with
  | .move _=>true
  | .assign _=>true
  | .extract _ _=>true
  |_=>false
 |none=>false
def tailL (md:Region.Mode) (ops:Array Oper):List Nat->Array Bool->Bool
 |[],listed=>(Region.ready md ops listed).isEmpty
 |k::r,listed=>decide (Region.ready md ops listed=[k])&&tailL md ops r (listed.setIfInBounds k true)||
   ((Region.ready md ops listed).contains k&&Region.free md ops listed k&&handsOn ops k)&&tailL md ops r (listed.setIfInBounds k true)
def headL (md:Region.Mode) (ops:Array Oper) (tl:List Nat):List Nat->Array Bool->Bool
 |[],listed=>(Region.ready md ops listed).all (fun j=>tl.contains j)&&tailL md ops tl listed
 |k::r,listed=>(Region.ready md ops listed).contains k&&Region.free md ops listed k&&headL md ops tl r (listed.setIfInBounds k true)
def floatL (md:Region.Mode) (ops:Array Oper) (hd tl:List Nat):List Nat->Array Bool->Bool
 |[],listed=>(List.range ops.size).all (fun i=>listed.getD i true||hd.contains i||tl.contains i)&&tl.all (fun t=>!listed.getD t true)&&headL md ops tl hd listed
 |k::r,listed=>(Region.ready md ops listed).contains k&&Region.free md ops listed k&&floatL md ops hd tl r (listed.setIfInBounds k true)
def ordB (md:Region.Mode) (ops:Array Oper) (fl hd tl:List Nat):Bool:=
 Region.noSelect ops&&(match tl with|[]=>false|s::r=>sinkL md ops s hd&&chainL md ops [s] r)&&hd.all (fun i=>!tl.contains i)&&opsIn ops fl&&opsIn ops hd&&opsIn ops tl&&floatL md ops hd tl fl (Array.replicate ops.size false)
section
variable {P:Program} {ops:Array Oper} {md:Region.Mode} {C:World->Prop} {Q:Exit->Act->World->Prop}
structure HInv (md:Region.Mode) (ops:Array Oper) (tl:List Nat) (listed:Array Bool):Prop where
 size:listed.size=ops.size
 closed: ∀j oj,ops[j]?=some oj->listed.getD j false=true->∀e∈oj.after,Region.binds md e=true->listed.getD e.on false=true
 tail: ∀t∈tl,listed.getD t true=false
theorem HInv.set {tl:List Nat} {i:Nat} {listed:Array Bool} (inv:HInv md ops tl listed) (hi:i∈Region.ready md ops listed) (hin:i∉tl):HInv md ops tl (listed.setIfInBounds i true):=by
 obtain⟨_,oi,hoi,hall⟩:=mem_ready.1 hi
 refine⟨by simp[inv.size],fun j oj hj hl e he hb=>?_,fun t ht=>by rw[getD_set_ne true (by rintro rfl;exact hin ht)];exact inv.tail t ht⟩
 by_cases hij:i=j
 ·subst hij
  have:oj=oi:=Option.some.inj (hj.symm.trans hoi)
  subst this
  exact getD_set_true (hall e he hb)
 ·rw[getD_set_ne false hij] at hl
  exact getD_set_true (inv.closed j oj hj hl e he hb)
theorem waits_off {listed:Array Bool} {t i:Nat} (h:Region.waitsFor md ops t i=true) (hun:listed.getD i true=false):t∉Region.ready md ops listed:=by
 intro hr
 obtain⟨ot,hot,e,he,hb,hon⟩:=Region.waitsFor_spec h
 obtain⟨_,o',ho',hall⟩:=mem_ready.1 hr
 have:o'=ot:=Option.some.inj (ho'.symm.trans hot)
 subst this
 have h2:=hall e he hb
 rw[hon,getD_both hun] at h2
 cases h2
theorem sink_off {s:Nat} {tl:List Nat} {listed:Array Bool} (inv:HInv md ops tl listed): ∀l:List Nat,sinkL md ops s l=true->∀i∈l,listed.getD i true=false->s∉Region.ready md ops listed
 |[],_,i,hi,_=>by cases hi
 |k::r,h,i,hi,hun=>by
  simp only[sinkL,Bool.and_eq_true,Bool.or_eq_true] at h
  rcases List.mem_cons.1 hi with rfl|hi
  ·rcases h.1 with h1|h1
   ·exact waits_off h1 hun
   ·obtain⟨j,hj,hw⟩:=List.any_eq_true.1 h1
    cases hl:listed.getD j true with
    |false=>exact sink_off inv r h.2 j hj hl
    |true=>
     obtain⟨oj,hoj,e,he,hb,hon⟩:=Region.waitsFor_spec hw
     have hj':j<listed.size:=by rw[inv.size];exact(Array.getElem?_eq_some_iff.1 hoj).1
     have hjs:listed.getD j false=true:=by simp[hj'] at hl|-;exact hl
     have h2:=inv.closed j oj hoj hjs e he hb
     rw[hon,getD_both hun] at h2
     cases h2
  ·exact sink_off inv r h.2 i hi hun
theorem chain_off {tl:List Nat} {listed:Array Bool} (inv:HInv md ops tl listed): ∀(l seen:List Nat),chainL md ops seen l=true->(∀j∈seen,j∈tl)->(∀j∈l,j∈tl)->∀t∈l,t∉Region.ready md ops listed
 |[],_,_,_,_,t,ht=>by cases ht
 |k::r,seen,h,hs,hl,t,ht=>by
  simp only[chainL,Bool.and_eq_true] at h
  rcases List.mem_cons.1 ht with rfl|ht
  ·obtain⟨j,hj,hw⟩:=List.any_eq_true.1 h.1
   exact waits_off hw (inv.tail j (hs j hj))
  ·refine chain_off inv r (k::seen) h.2 (fun j hj=>?_) (fun j hj=>hl j (List.mem_cons_of_mem _ hj)) t ht
   rcases List.mem_cons.1 hj with rfl|hj
   ·exact hl _ (List.mem_cons_self ..)
   ·exact hs j hj
theorem tail_off {s:Nat} {r hd:List Nat} {listed:Array Bool} (inv:HInv md ops (s::r) listed) (h1:sinkL md ops s hd=true) (h2:chainL md ops [s] r=true) {i:Nat} (hi:i∈hd) (hun:listed.getD i true=false):
 ∀t∈s::r,t∉Region.ready md ops listed:=fun t ht=>by
 rcases List.mem_cons.1 ht with rfl|ht
 ·exact sink_off inv hd h1 i hi hun
 ·exact chain_off inv r [s] h2 (fun j hj=>by rw[List.mem_singleton.1 hj];exact List.mem_cons_self ..) (fun j hj=>List.mem_cons_of_mem _ hj) t ht
def wpAnyLQ (P:Program) (md:Region.Mode) (ops:Array Oper) (C:World->Prop) (hd:List Nat) (L:Array Bool->Act->Prop):Nat->Array Bool->Act->Prop
 |0,listed,a=>L listed a
 |f+1,listed,a=>
  Region.ready md ops listed≠[]/\∀i∈Region.ready md ops listed,i∈hd/\qOp P ops C i (wpAnyLQ P md ops C hd L f (listed.setIfInBounds i true)) a
theorem wpAny_of_headQ {hd:List Nat} {g:Nat} {L:Array Bool->Act->Prop} (hL: ∀listed a w,C w->L listed a->wpAny P md ops Q g listed a w):
 ∀(f:Nat) (listed:Array Bool) (a:Act) (w:World),C w->wpAnyLQ P md ops C hd L f listed a->wpAny P md ops Q (f+g) listed a w
 |0,listed,a,w,hw,h=>by rw[Nat.zero_add];exact hL _ _ _ hw h
 |f+1,listed,a,w,hw,h=>by
  rw[show f+1+g=(f+g)+1 by omega]
  exact⟨fun h0=>absurd h0 h.1,fun i hi=>wpOp_of_qOp hw (fun a' w' hw' h'=>wpAny_of_headQ hL f _ a' w' hw' h') (h.2 i hi).2⟩
theorem getD_set_trueD {listed:Array Bool} {i k:Nat} (h:listed.getD i true=true):(listed.setIfInBounds k true).getD i true=true:=by
 by_cases e:k=i
 ·subst e
  rcases Nat.lt_or_ge k listed.size with h'|h'
  ·simp[h']
  ·simp[Array.getElem?_eq_none h']
 ·rw[getD_set_ne true e];exact h
def covers (ops:Array Oper) (hd tl:List Nat) (listed:Array Bool):Prop:= ∀i,i<ops.size->listed.getD i true=true\/i∈hd\/i∈tl
theorem covers.set {hd tl:List Nat} {listed:Array Bool} (h:covers ops hd tl listed) (k:Nat):covers ops hd tl (listed.setIfInBounds k true):=fun i hi=>by
 rcases h i hi with h|h
 ·exact .inl (getD_set_trueD h)
 ·exact .inr h
theorem in_head {s:Nat} {r hd:List Nat} {listed:Array Bool} (inv:HInv md ops (s::r) listed) (hc:covers ops hd (s::r) listed) (h1:sinkL md ops s hd=true) (h2:chainL md ops [s] r=true) {i:Nat} (hi:i∈hd) (hun:listed.getD i true=false)
 {j:Nat} (hj:j∈Region.ready md ops listed):j∈hd:=by
 obtain⟨hjun,oj,hoj,_⟩:=mem_ready.1 hj
 rcases hc j (Array.getElem?_eq_some_iff.1 hoj).1 with h|h|h
 ·rw[hjun] at h;cases h
 ·exact h
 ·exact absurd hj (tail_off inv h1 h2 hi hun j h)
theorem wpAnyLQ_first {s i:Nat} {r hd:List Nat} {oi:Oper} {v:Value} {L:Array Bool->Act->Prop} (hi:ops[i]?=some oi) (hsel: ∀(j:Nat) (o:Oper) cs b,ops[j]?=some o->o.op≠ .select cs b)
 (h1:sinkL md ops s hd=true) (h2:chainL md ops [s] r=true) (hdis: ∀j∈hd,j∉s::r) (hin:i∈hd)
 (hdone: ∀listed a,L listed a->∀j∈Region.ready md ops listed,j∈s::r):
 ∀(f:Nat) (listed:Array Bool) (a:Act),HInv md ops (s::r) listed->covers ops hd (s::r) listed->
  (∀j oj,ops[j]?=some oj->j≠i->listed.getD j true=false->(∀e∈oj.after,Region.binds md e=true->e.on≠i)->oi.apart ops oj=true)->
  i∈Region.ready md ops listed->YieldsIn P ops C oi v a->
  wpAnyLQ P md ops C hd L f (listed.setIfInBounds i true) (a.put oi.dst v)->wpAnyLQ P md ops C hd L (f+1) listed a:=by
 intro f
 induction f with
 |zero=>
  intro listed a inv hc _ hr hy H
  have hun:=(mem_ready.1 hr).1
  refine⟨fun h=>(by rw[h] at hr;cases hr),fun j hj=>?_⟩
  have hjn:=in_head inv hc h1 h2 hin hun hj
  refine⟨hjn,?_⟩
  by_cases hji:j=i
  ·subst hji;exact hy.qOp hi H
  ·exact absurd (hdone _ _ H j (ready_mono hj hji)) (hdis j hjn)
 |succ f ih=>
  intro listed a inv hc hfree hr hy H
  have hun:=(mem_ready.1 hr).1
  refine⟨fun h=>(by rw[h] at hr;cases hr),fun j hj=>?_⟩
  have hjn:=in_head inv hc h1 h2 hin hun hj
  refine⟨hjn,?_⟩
  by_cases hji:j=i
  ·subst hji;exact hy.qOp hi H
  ·have h3:=(H.2 j (ready_mono hj hji)).2
   obtain⟨hjun,oj,hoj,hall⟩:=mem_ready.1 hj
   have hnot: ∀e∈oj.after,Region.binds md e=true->e.on≠i:=fun e he hb heq=>by
    have h1:=hall e he hb
    rw[heq,getD_both hun] at h1
    cases h1
   have h4:=qOp_put hoj (hfree j oj hoj hji hjun hnot) (fun cs b=>hsel i oi cs b hi) (fun cs b=>hsel j oj cs b hoj) hy h3
   have hfree': ∀k ok,ops[k]?=some ok->k≠i->(listed.setIfInBounds j true).getD k true=false->
    (∀e∈ok.after,Region.binds md e=true->e.on≠i)->oi.apart ops ok=true:=fun k ok hk hki hun hno=>by
    refine hfree k ok hk hki ?_ hno
    by_cases hjk:j=k
    ·subst hjk;exact hjun
    ·rw[getD_set_ne true hjk] at hun;exact hun
   refine qOp_mono (fun a' h5=>ih (listed.setIfInBounds j true) a' (inv.set hj (hdis j hjn)) (hc.set j) hfree' (ready_mono hr (Ne.symm hji)) h5.1 ?_) h4
   rw[Array.setIfInBounds_comm _ _ hji]
   exact h5.2
theorem wpAnyLQ_lex {s:Nat} {r hd:List Nat} {Lq:Act->Prop} (hsel:Region.noSelect ops=true) (h1:sinkL md ops s hd=true) (h2:chainL md ops [s] r=true) (hdis: ∀j∈hd,j∉s::r):
 ∀(l:List Nat) (listed:Array Bool) (a:Act),(∀j∈l,j∈hd)->(∀j∈l,j<ops.size)->HInv md ops (s::r) listed->covers ops hd (s::r) listed->
 headL md ops (s::r) l listed=true->wpQuiet P ops C Lq (opsAt ops l) a->
 wpAnyLQ P md ops C hd (fun listed' a'=>((Region.ready md ops listed').all (fun j=>(s::r).contains j)&&tailL md ops (s::r) listed')=true/\Lq a') l.length listed a
 |[],listed,a,_,_,_,_,hB,h=>⟨by simpa[headL] using hB,h⟩
 |k::l,listed,a,hl,hlt,inv,hc,hB,h=>by
  obtain⟨ok,hok⟩: ∃ok,ops[k]?=some ok:=⟨ops[k]'(hlt k (List.mem_cons_self ..)),Array.getElem?_eq_getElem _⟩
  simp only[headL,Bool.and_eq_true] at hB
  obtain⟨⟨hr,hf⟩,hB'⟩:=hB
  have hr':k∈Region.ready md ops listed:=by simpa using hr
  rw[opsAt_cons hok] at h
  have hst:qOp P ops C k (wpQuiet P ops C Lq (opsAt ops l)) a:=by unfold qOp;simp only[hok];exact h
  obtain⟨v,hy,hK⟩:=yieldsIn_of_qOp hok hst
  exact wpAnyLQ_first hok (Region.noSelect_spec hsel) h1 h2 hdis (hl k (List.mem_cons_self ..)) (fun listed' a' hL j hj=>by
   have:=hL.1
   simp only[Bool.and_eq_true] at this
   simpa using List.all_eq_true.1 this.1 j hj) l.length listed a inv hc (Region.free_spec hok hf) hr' hy
   (wpAnyLQ_lex hsel h1 h2 hdis l _ _ (fun j hj=>hl j (List.mem_cons_of_mem _ hj)) (fun j hj=>hlt j (List.mem_cons_of_mem _ hj)) (inv.set hr' (hdis k (hl k (List.mem_cons_self ..)))) (hc.set k) hB' hK)
theorem hands_on {i:Nat} {o:Oper} (ho:ops[i]?=some o) (h:handsOn ops i=true) {K:Act->World->Prop} {a:Act} {w:World} (hw:wpOp P ops Q i K a w): ∃v,Yields P ops o v a/\K (a.put o.dst v) w:=by
 unfold handsOn at h
 rw[ho] at h
 have key: ∃r:Result Next,(∃v,r= .ok (.value v) w/\∀w,(execOp a.eval o).run P w= .ok (.value v) w)\/(r= .halt (.stuck "") w/\∀K':Act->World->Prop,¬o.wp P a w K' Q):=by
  cases e:o.op<;>simp only[e] at h<;>first|(cases h;done)|skip
  case move x=>exact⟨_,.inl ⟨_,rfl,fun w=>BigFrame.run_move x e w⟩⟩
  case assign x=>exact⟨_,.inl ⟨_,rfl,fun w=>BigFrame.run_assign x e w⟩⟩
  case extract x k=>
   have hrun: ∀w,(execOp a.eval o).run P w=((Instr.extract (a.eval x) k).run P w).andThen fun v w=> .ok (.value v) w:=fun w=>by unfold execOp;simp only[e,Sem.run_bind,Sem.run_pure]
   cases hv:a.eval x with
   |tuple vs=>
    cases hk:vs[k]? with
    |some v=>exact⟨_,.inl ⟨v,rfl,fun w=>by rw[hrun,hv];simp[Instr.extract,hk]⟩⟩
    |none=>
     refine⟨_,.inr ⟨rfl,fun K' hw=>?_⟩⟩
     unfold Oper.wp at hw
     rw[hrun,hv] at hw
     simp[Instr.extract,hk,Oper.upon] at hw
   |_=>
    refine⟨_,.inr ⟨rfl,fun K' hw=>?_⟩⟩
    unfold Oper.wp at hw
    rw[hrun,hv] at hw
    simp[Instr.extract,Oper.upon] at hw
 have hevt:((execOp a.eval o).runT P w #[]).2= #[]:=by
  cases e:o.op<;>simp only[e] at h<;>first|(cases h;done)|skip
  case move x=>unfold execOp;rw[e];rfl
  case assign x=>unfold execOp;rw[e];rfl
  case extract x k=>
   unfold execOp
   rw[e]
   simp only[Instr.extract]
   split
   ·split<;>rfl
   ·rfl
 unfold wpOp at hw
 simp only[ho] at hw
 split at hw
 ·next hwant=>
  rcases hw with hw|⟨hasks,_⟩
  ·obtain⟨_,⟨v,_,hrun⟩|⟨_,hno⟩⟩:=key
   ·unfold Oper.wp at hw
    rw[hrun w] at hw
    exact⟨_,.inl ⟨hwant,hrun⟩,hw⟩
   ·exact absurd hw (hno _)
  ·unfold Oper.asks at hasks
   rw[hevt] at hasks
   simp at hasks
 ·next hwant=>exact⟨_,.inr ⟨by simpa using hwant,rfl⟩,hw⟩
theorem wpAny_of_tail (hs:Region.noSelect ops=true) (hQ: ∀c a d v w,Q (.panic c) (a.put d v) w->Q (.panic c) a w): ∀(l:List Nat) (listed:Array Bool) (a:Act) (w:World),(∀j∈l,j<ops.size)->
 tailL md ops l listed=true->wpList P ops Q (opsAt ops l) a w->wpAny P md ops Q l.length listed a w
 |[],_,_,_,_,hB,h=>⟨by simpa[tailL] using hB,h⟩
 |k::l,listed,a,w,hlt,hB,h=>by
  obtain⟨ok,hok⟩: ∃ok,ops[k]?=some ok:=⟨ops[k]'(hlt k (List.mem_cons_self ..)),Array.getElem?_eq_getElem _⟩
  rw[opsAt_cons hok] at h
  have hw:wpOp P ops Q k (wpList P ops Q (opsAt ops l)) a w:=by unfold wpOp;simp only[hok];exact h
  have hlt': ∀j∈l,j<ops.size:=fun j hj=>hlt j (List.mem_cons_of_mem _ hj)
  simp only[tailL,Bool.or_eq_true,Bool.and_eq_true,decide_eq_true_eq] at hB
  rcases hB with⟨hr,hB'⟩|⟨⟨⟨hr,hf⟩,hh⟩,hB'⟩
  ·refine⟨fun h1=>(by rw[hr] at h1;cases h1),fun i hi=>?_⟩
   rw[hr] at hi
   have hik:i=k:=by simpa using hi
   subst hik
   exact wpOp_mono (fun a' w' h'=>wpAny_of_tail hs hQ l _ a' w' hlt' hB' h') hw
  ·obtain⟨v,hy,hK⟩:=hands_on hok hh hw
   exact wpAny_take hok hs hf hr (fun c a w=>hQ c a _ _ w) hy (wpAny_of_tail hs hQ l _ _ _ hlt' hB' hK)
def wpYields (P:Program) (ops:Array Oper) (L:Act->Prop):List Oper->Act->Prop
 |[],a=>L a
 |o::r,a=> ∃v,Yields P ops o v a/\wpYields P ops L r (a.put o.dst v)
theorem wpYields_nil {L:Act->Prop} {a:Act} (h:L a):wpYields P ops L [] a:=h
theorem wpYields_step {L:Act->Prop} {a:Act} {o:Oper} {r:List Oper} {v:Value} (hw:Region.wanted o (yielded ops a.tmps)=true) (hr: ∀w,(execOp a.eval o).run P w= .ok (.value v) w) (h:wpYields P ops L r (a.put o.dst v)):wpYields P ops L (o::r) a:=
 ⟨v,.inl ⟨hw,hr⟩,h⟩
theorem wpAny_of_float {s:Nat} {r hd:List Nat} (hs:Region.noSelect ops=true) (hQ: ∀c a d v w,Q (.panic c) (a.put d v) w->Q (.panic c) a w) (h1:sinkL md ops s hd=true) (h2:chainL md ops [s] r=true) (hdis: ∀j∈hd,j∉s::r)
 (hhd: ∀j∈hd,j<ops.size) (htl: ∀j∈s::r,j<ops.size): ∀(l:List Nat) (listed:Array Bool) (a:Act) (w:World),(∀j∈l,j<ops.size)->listed.size=ops.size->
 (∀j oj,ops[j]?=some oj->listed.getD j false=true->∀e∈oj.after,Region.binds md e=true->listed.getD e.on false=true)->floatL md ops hd (s::r) l listed=true->C w->
 wpYields P ops (fun a1=>wpQuiet P ops C (fun a2=> ∀w',C w'->wpList P ops Q (opsAt ops (s::r)) a2 w') (opsAt ops hd) a1) (opsAt ops l) a->wpAny P md ops Q (l.length+(hd.length+(s::r).length)) listed a w
 |[],listed,a,w,_,hsz,hcl,hB,hC,h=>by
  simp only[floatL,Bool.and_eq_true] at hB
  obtain⟨⟨hc,ht⟩,hB'⟩:=hB
  have inv:HInv md ops (s::r) listed:=⟨hsz,hcl,fun t ht'=>by
   have:=List.all_eq_true.1 ht t ht'
   simpa using this⟩
  have cov:covers ops hd (s::r) listed:=fun i hi=>by
   have:=List.all_eq_true.1 hc i (List.mem_range.2 hi)
   simp only[Bool.or_eq_true] at this
   rcases this with(h|h)|h
   ·exact .inl h
   ·exact .inr (.inl (by simpa using h))
   ·exact .inr (.inr (by simpa using h))
  have H:=wpAnyLQ_lex (P:=P) (C:=C) hs h1 h2 hdis hd listed a (fun j hj=>hj) hhd inv cov hB' h
  rw[List.length_nil,Nat.zero_add]
  exact wpAny_of_headQ (fun listed' a' w' hw' hL=>wpAny_of_tail hs hQ (s::r) listed' a' w' htl (by have:=hL.1;simp only[Bool.and_eq_true] at this;exact this.2) (hL.2 w' hw')) _ _ _ _ hC H
 |k::l,listed,a,w,hlt,hsz,hcl,hB,hC,h=>by
  obtain⟨ok,hok⟩: ∃ok,ops[k]?=some ok:=⟨ops[k]'(hlt k (List.mem_cons_self ..)),Array.getElem?_eq_getElem _⟩
  simp only[floatL,Bool.and_eq_true] at hB
  obtain⟨⟨hr,hf⟩,hB'⟩:=hB
  rw[opsAt_cons hok] at h
  obtain⟨v,hy,hK⟩:=h
  have hr':k∈Region.ready md ops listed:=by simpa using hr
  have hcl':=(HInv.set (tl:=[]) ⟨hsz,hcl,fun t ht=>by cases ht⟩ hr' (fun h=>by cases h)).closed
  rw[show(k::l).length+(hd.length+(s::r).length)=(l.length+(hd.length+(s::r).length))+1 by simp only[List.length_cons];omega]
  exact wpAny_take hok hs hf hr (fun c a w=>hQ c a _ _ w) hy (wpAny_of_float hs hQ h1 h2 hdis hhd htl l _ _ _ (fun j hj=>hlt j (List.mem_cons_of_mem _ hj)) (by simpa using hsz) hcl' hB' hC hK)
theorem wp_region_ord (fl hd:List Nat) (s:Nat) (r:List Nat) (C:World->Prop) {id:Nat} {a:Act} {w:World} {l:List Oper} (hm:P.follows .mixedOrders=true) (hB:ordB .any l.toArray fl hd (s::r)=true) (hn:fl.length+(hd.length+(s::r).length)=l.length) (hC:C w.drew)
 (hQ: ∀c a d v w,Q (.panic c) (a.put d v) w->Q (.panic c) a w)
 (h:wpYields P l.toArray (fun a1=>wpQuiet P l.toArray C (fun a2=> ∀w',C w'->wpList P l.toArray Q (opsAt l.toArray (s::r)) a2 w') (opsAt l.toArray hd) a1) (opsAt l.toArray fl) a):(Code.region id l.toArray true).wp P Q a w:=by
 simp only[ordB,Bool.and_eq_true] at hB
 obtain⟨⟨⟨⟨⟨⟨hs,h1,h2⟩,hdis⟩,hfl⟩,hhd⟩,htl⟩,hF⟩:=hB
 have lt: ∀{l':List Nat},opsIn l.toArray l'=true->∀j∈l',j<l.toArray.size:=fun h j hj=>by
  have:=List.all_eq_true.1 h j hj
  simpa using this
 refine wp_region_any hm ?_
 have H:=wpAny_of_float (P:=P) (md:= .any) (C:=C) hs hQ h1 h2 (fun j hj hj2=>by
  have:=List.all_eq_true.1 hdis j hj
  rw[List.contains_iff_mem.2 hj2] at this
  cases this) (lt hhd) (lt htl) fl (Array.replicate l.toArray.size false) a {w with drawn:=w.drawn+1} (lt hfl) (by simp) (fun j oj _ hl=>by rw[getD_replicate_false] at hl;cases hl) hF hC h
 rw[hn] at H
 simpa using H
end
section
variable {P:Program} {ops:Array Oper} {C:World->Prop} {o:Oper} {a:Act} {K:Act->Prop}
theorem quiet_mid (hw:Region.wanted o (yielded ops a.tmps)=true) (ty:TypeId) (x:Operand) (ho:o.op= .load ty x) (b f:Nat) (hx:a.eval x= .pointer (some ⟨b,f,none⟩)) (cs:List Value) (d:TypeDesc) (hC: ∀W,C W->W.rangeAt b f cs)
 (hu:P.underlying ty=some d) (hd:d.isRow=true) (hi:(P.info? ty).map (·.size)=some cs.length) (k:K (a.put o.dst (.agg cs.toArray))):if Region.wanted o (yielded ops a.tmps) then o.quiet P a C K else K (a.put o.dst undef):=by
 rw[if_pos hw]
 refine⟨_,fun W hW=>?_,k⟩
 unfold Oper.quietAt execOp
 simp only[ho,hx,Instr.loadAt,Instr.sureAddr,Sem.run_bind,Sem.run_pure,Result.andThen_ok,run_loadVar_mid W b f ty cs d (hC W hW) hu hd hi]
 exact⟨rfl,rfl⟩
end
end Go.Proofs.YthoiikkjjaldnaaDoor
namespace Go.Proofs.YthoiikkjjaldnaaDoor
set_option linter.unusedVariables false
set_option linter.unusedSimpArgs false
set_option maxRecDepth 100000
open Go.RowKit
theorem cell_alloc {w:World} {p:Addr} {v:Value} (o:Obj) (h:w.cell? p=some v):(w.alloc o).cell? p=some v:=by
 have hlt:p.block<w.heap.size:=by
  rcases Nat.lt_or_ge p.block w.heap.size with h1|h1
  ·exact h1
  ·unfold World.cell? at h
   rw[Array.getElem?_eq_none h1] at h
   simp at h
 exact(((Below.refl w.heap.size w).alloc (Nat.le_refl _) o).cell hlt).trans h
def Lits (n0:Nat) (w w':World):Prop:= ∀(p:Addr) v,n0<=p.block->w.cell? p=some v->w'.cell? p=some v
theorem Lits.refl (n0:Nat) (w:World):Lits n0 w w:=fun _ _ _ h=>h
theorem Lits.trans {n0:Nat} {a b c:World} (h:Lits n0 a b) (k:Lits n0 b c):Lits n0 a c:=fun p v hp hc=>k p v hp (h p v hp hc)
theorem Lits.alloc {n0:Nat} {a b:World} (h:Lits n0 a b) (o:Obj):Lits n0 a (b.alloc o):=fun p v hp hc=>cell_alloc o (h p v hp hc)
theorem Lits.drew {n0:Nat} {a b:World} (h:Lits n0 a b):Lits n0 a b.drew:=h
theorem Lits.cell {n0:Nat} {w w':World} {p:Addr} {v:Value} (h:Lits n0 w w') (hp:n0<=p.block) (hc:w.cell? p=some v):w'.cell? p=some v:=h p v hp hc
theorem cell_lt {w:World} {p:Addr} {v:Value} (h:w.cell? p=some v):p.block<w.heap.size:=by
 rcases Nat.lt_or_ge p.block w.heap.size with h1|h1
 ·exact h1
 ·unfold World.cell? at h
  rw[Array.getElem?_eq_none h1] at h
  simp at h
theorem cell_newAt {w:World} {g i:Nat} {v:Value} {cs:Array Value} {t:TypeId} (h:g=w.heap.size) (hv:cs[i]?=some v):(w.alloc (.cells cs t)).cell? ⟨g,i,none⟩=some v:=by rw[h];exact(Blk.cell (Blk.new w t cs) i).trans hv
theorem add_two (g i:Nat):(⟨g,2,none⟩:Addr).add i=⟨g,2+i,none⟩:=by unfold Addr.add;split<;>simp_all
theorem rs_at4 {w:World} {B g:Nat} {a b c d:Int} (h0:w.cell? ⟨g,2,none⟩=some (.int .i64 a)) (h1:w.cell? ⟨g,3,none⟩=some (.int .i64 b)) (h2:w.cell? ⟨g,4,none⟩=some (.int .i64 c)) (h3:w.cell? ⟨g,5,none⟩=some (.int .i64 d)) (hg:g<B):Rs w B (some ⟨g,2,none⟩) [a,b,c,d]:=
 ⟨by simp[ints],fun _=>⟨_,rfl,hg,fun j u hj=>by
   match j,hj with
   |0,hj=>simp[ints] at hj;subst hj;rw[add_two];exact h0
   |1,hj=>simp[ints] at hj;subst hj;rw[add_two];exact h1
   |2,hj=>simp[ints] at hj;subst hj;rw[add_two];exact h2
   |3,hj=>simp[ints] at hj;subst hj;rw[add_two];exact h3⟩⟩
def Hop (w:World) (A:Option Addr) (w':World):Prop:= ∀(p:Addr) v,(∀a,A=some a->a.block≠p.block)->w.cell? p=some v->w'.cell? p=some v
theorem Hop.cell {w w':World} {A:Option Addr} {p:Addr} {v:Value} (h:Hop w A w') (hp: ∀a,A=some a->a.block≠p.block) (hc:w.cell? p=some v):w'.cell? p=some v:=h p v hp hc
abbrev Box8 (g:Nat) (W:World) (a b c d e f x y:Int):Prop:=W.cell? ⟨g,0,none⟩=some (.int .i64 a)/\W.cell? ⟨g,1,none⟩=some (.int .i64 b)/\W.cell? ⟨g,2,none⟩=some (.int .i64 c)/\W.cell? ⟨g,3,none⟩=some (.int .i64 d)/\W.cell? ⟨g,4,none⟩=some (.int .i64 e)/\W.cell? ⟨g,5,none⟩=some (.int .i64 f)/\W.cell? ⟨g,6,none⟩=some (.int .i64 x)/\W.cell? ⟨g,7,none⟩=some (.int .i64 y)
theorem Box8.alloc {g:Nat} {W:World} {a b c d e f x y:Int} (h:Box8 g W a b c d e f x y) (o:Obj):Box8 g (W.alloc o) a b c d e f x y:=
 ⟨cell_alloc o h.1,cell_alloc o h.2.1,cell_alloc o h.2.2.1,cell_alloc o h.2.2.2.1,cell_alloc o h.2.2.2.2.1,cell_alloc o h.2.2.2.2.2.1,cell_alloc o h.2.2.2.2.2.2.1,cell_alloc o h.2.2.2.2.2.2.2⟩
theorem Box8.drew {g:Nat} {W:World} {a b c d e f x y:Int} (h:Box8 g W a b c d e f x y):Box8 g W.drew a b c d e f x y:=h
theorem Box8.new (w:World) (t:TypeId) (a b c d e f x y:Int):Box8 w.heap.size (w.alloc (.cells #[.int .i64 a,.int .i64 b,.int .i64 c,.int .i64 d,.int .i64 e,.int .i64 f,.int .i64 x,.int .i64 y] t)) a b c d e f x y:=
 ⟨cell_newAt rfl rfl,cell_newAt rfl rfl,cell_newAt rfl rfl,cell_newAt rfl rfl,cell_newAt rfl rfl,cell_newAt rfl rfl,cell_newAt rfl rfl,cell_newAt rfl rfl⟩
theorem Box8.lt {g:Nat} {W:World} {a b c d e f x y:Int} (h:Box8 g W a b c d e f x y):g<W.heap.size:=cell_lt (p:=⟨g,0,none⟩) h.1
theorem Box8.rs {g B:Nat} {W:World} {a b c d e f x y:Int} (h:Box8 g W a b c d e f x y) (hg:g<B):Rs W B (some ⟨g,2,none⟩) [c,d,e,f]:=rs_at4 h.2.2.1 h.2.2.2.1 h.2.2.2.2.1 h.2.2.2.2.2.1 hg
structure N3 (w wr:World) (ps:List Int) (A1:Option Addr) (c1:Nat) (v:List Int) (A2:Option Addr) (c2:Nat) (u:List Int) (A3:Option Addr) (c3:Nat) (m:List Int):Prop where
 P:IB wr w.heap.size 77 ps
 O1:Own wr (w.heap.size+1) A1 c1 v
 O2:Own wr (w.heap.size+1) A2 c2 u
 O3:Own wr (w.heap.size+1) A3 c3 m
 d12: ∀a b,A1=some a->A2=some b->a.block≠b.block
 d13: ∀a b,A1=some a->A3=some b->a.block≠b.block
 d23: ∀a b,A2=some a->A3=some b->a.block≠b.block
 B:Below w.heap.size w wr
section
variable {w wr w':World} {ps v u m x:List Int} {A1 A2 A3 A':Option Addr} {c1 c2 c3 c':Nat}
theorem N3.size (s:N3 w wr ps A1 c1 v A2 c2 u A3 c3 m):w.heap.size+1<=wr.heap.size:=Blk.lt s.P
theorem N3.alloc (s:N3 w wr ps A1 c1 v A2 c2 u A3 c3 m) (o:Obj):N3 w (wr.alloc o) ps A1 c1 v A2 c2 u A3 c3 m:=⟨Blk.alloc s.P o,s.O1.alloc o,s.O2.alloc o,s.O3.alloc o,s.d12,s.d13,s.d23,s.B.alloc s.B.size o⟩
theorem N3.drew (s:N3 w wr ps A1 c1 v A2 c2 u A3 c3 m):N3 w wr.drew ps A1 c1 v A2 c2 u A3 c3 m:=⟨Blk.drew s.P,s.O1.drew,s.O2.drew,s.O3.drew,s.d12,s.d13,s.d23,s.B.drew⟩
theorem N3.old (s:N3 w wr ps A1 c1 v A2 c2 u A3 c3 m) {p:Addr} {y:Value} (h:w.cell? p=some y) (hp:p.block<w.heap.size):wr.cell? p=some y:=(s.B.cell hp).trans h
end
end Go.Proofs.YthoiikkjjaldnaaDoor
