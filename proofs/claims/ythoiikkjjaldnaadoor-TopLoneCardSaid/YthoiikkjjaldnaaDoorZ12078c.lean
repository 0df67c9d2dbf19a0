/- Texts that the law rests on, laid together: LevW. -/
import Derived.Test.YthoiikkjjaldnaaDoorZ9f8558
import Derived.Test.YthoiikkjjaldnaaDoorZ111339
import Derived.BigQuiet
import Derived.Deep.QuietTactic
set_option maxHeartbeats 16000000
namespace Go.Proofs.YthoiikkjjaldnaaDoor
set_option linter.unusedVariables false
set_option linter.unusedSimpArgs false
set_option maxRecDepth 100000
open Go.RowKit
def Levs (w:World) (r:List Int) (e:Ending) (w':World):Prop:=e= .returned (.tuple #[.agg (agi (padTo 8 (levR r).1)),.int .i64 (levR r).2.1,.bool (levR r).2.2])/\Below w.heap.size w w'
theorem lev_ans {w w':World} {r k:List Int} {e:Int} {b:Bool} (h:levR r=(k,e,b)) (hB:Below w.heap.size w w'):Levs w r (.returned (.tuple #[.agg (agi (padTo 8 k)),.int .i64 e,.bool b])) w':=by
 refine⟨?_,hB⟩
 rw[h]
theorem pad_nil:padTo 8 []=Z8:=rfl
structure Bx4 (w wr:World) (r kk arr:List Int):Prop where
 A:IB wr w.heap.size 69 r
 R:IB wr (w.heap.size+1) 27 Z8
 K:IB wr (w.heap.size+1+1) 27 kk
 P:IB wr (w.heap.size+1+1+1) 69 arr
 bel:Below w.heap.size w wr
theorem Bx4.lt {w wr:World} {r kk arr:List Int} (h:Bx4 w wr r kk arr):w.heap.size+1+1+1<wr.heap.size:=Blk.lt h.P
theorem Bx4.below {w wr wr':World} {r kk arr:List Int} (h:Bx4 w wr r kk arr) (hb:Below wr.heap.size wr wr'):Bx4 w wr' r kk arr:=
 ⟨Blk.below' h.A hb,Blk.below' h.R hb,Blk.below' h.K hb,Blk.below' h.P hb,h.bel.trans (hb.mono (by have:=h.lt;omega))⟩
theorem Bx4.drew {w wr:World} {r kk arr:List Int} (h:Bx4 w wr r kk arr):Bx4 w wr.drew r kk arr:=⟨h.A,h.R,h.K,h.P,h.bel.drew⟩
theorem Bx4.drewN {w wr:World} {r kk arr:List Int} (h:Bx4 w wr r kk arr) (n:Nat):Bx4 w (wr.drewN n) r kk arr:=⟨h.A,h.R,h.K,h.P,h.bel.trans ⟨rfl,rfl,rfl,Nat.le_refl _,fun _ _=>rfl⟩⟩
theorem Bx4.setK {w wr:World} {r kk arr:List Int} (h:Bx4 w wr r kk arr) (i:Nat) (v:Int):Bx4 w (wr.setCell ⟨w.heap.size+1+1,i,none⟩ (.int .i64 v)) r (kk.set i v) arr:=
 ⟨Blk.far h.A (by show w.heap.size≠w.heap.size+1+1;omega) _,Blk.far h.R (by show w.heap.size+1≠w.heap.size+1+1;omega) _,IB.set_ h.K i v,Blk.far h.P (by show w.heap.size+1+1+1≠w.heap.size+1+1;omega) _,h.bel.setCell (p:=⟨w.heap.size+1+1,i,none⟩) (by show w.heap.size<=w.heap.size+1+1;omega) _⟩
theorem Bx4.setP {w wr:World} {r kk arr:List Int} (h:Bx4 w wr r kk arr) (i:Nat) (v:Int):Bx4 w (wr.setCell ⟨w.heap.size+1+1+1,i,none⟩ (.int .i64 v)) r kk (arr.set i v):=
 ⟨Blk.far h.A (by show w.heap.size≠w.heap.size+1+1+1;omega) _,Blk.far h.R (by show w.heap.size+1≠w.heap.size+1+1+1;omega) _,Blk.far h.K (by show w.heap.size+1+1≠w.heap.size+1+1+1;omega) _,IB.set_ h.P i v,h.bel.setCell (p:=⟨w.heap.size+1+1+1,i,none⟩) (by show w.heap.size<=w.heap.size+1+1+1;omega) _⟩
theorem Bx4.stored {w wr:World} {r kk arr:List Int} (h:Bx4 w wr r kk arr) (o:Obj) (c2:Array Value):Bx4 w ((wr.alloc o).setRow wr.heap.size c2) r kk arr:=
 ⟨Blk.rowFar (Blk.alloc h.A o) (by have:=h.lt;omega),Blk.rowFar (Blk.alloc h.R o) (by have:=h.lt;omega),Blk.rowFar (Blk.alloc h.K o) (by have:=h.lt;omega),Blk.rowFar (Blk.alloc h.P o) (by have:=h.lt;omega),
  below_setRow (h.bel.alloc h.bel.size o) h.bel.size c2⟩
theorem Bx4.start (w:World) (r:List Int):Bx4 w (((((w.alloc (.cells (agi r) 69)).alloc (.cells (agi Z8) 27)).alloc (.cells (agi Z8) 27)).alloc (.cells (agi Z9) 69)).setRow (w.heap.size+1+1+1) (agi P0)) r Z8 P0:=by
 have h1:=IB.new w 69 r
 have h2:=IB.new (w.alloc (.cells (agi r) 69)) 27 Z8
 have h3:=IB.new ((w.alloc (.cells (agi r) 69)).alloc (.cells (agi Z8) 27)) 27 Z8
 have h4:=IB.new (((w.alloc (.cells (agi r) 69)).alloc (.cells (agi Z8) 27)).alloc (.cells (agi Z8) 27)) 69 Z9
 simp only[World.size_alloc] at h2 h3 h4
 exact⟨Blk.rowFar (((Blk.alloc h1 _).alloc _).alloc _) (by omega),Blk.rowFar ((Blk.alloc h2 _).alloc _) (by omega),Blk.rowFar (Blk.alloc h3 _) (by omega),h4.setRow P0,
  below_setRow (((((Below.refl _ _).alloc (Nat.le_refl _) _).alloc (by simp) _).alloc (by simp;omega) _).alloc (by simp;omega) _) (by omega) _⟩
theorem Bx4.start0 (w:World) (r:List Int):IB ((((w.alloc (.cells (agi r) 69)).alloc (.cells (agi Z8) 27)).alloc (.cells (agi Z8) 27)).alloc (.cells (agi Z9) 69)) (w.heap.size+1+1+1) 69 Z9:=by
 have h4:=IB.new (((w.alloc (.cells (agi r) 69)).alloc (.cells (agi Z8) 27)).alloc (.cells (agi Z8) 27)) 69 Z9
 simp only[World.size_alloc] at h4
 exact h4
theorem levinson_any (r:List Int) (w:World) (hl:r.length=9):Calls Tryd.prog 26 #[.agg (agi r)] w (Levs w r):=by
 have I0:=hid (Bx4.start w r)
 have O0:=hid (Bx4.start0 w r)
 have hR:=results_row3 (fn:=Tryd.f26) (p:=2) (q:=3) (r:=4) (ty:=27) rfl
 have HL:=hid hl
 have HIX:=hid (fun(k:Nat) (hk:k<9) (w:World)=>run_index_agi Tryd.underlying69 r hl k hk w)
 have c0:=IB.cell I0.out.A 0 (by omega)
 obtain⟨r0,hr0⟩: ∃r0,r0=r.getD 0 0:=⟨_,rfl⟩
 rw[<-hr0,z8_eq,z9_eq] at c0
 have HR0:=hid hr0
 rw[z8_eq,z9_eq] at I0
 rw[z8_eq,z9_eq] at O0
 rw[<-z9_eq] at O0
 clear hl hr0
 go_enter Tryd.func26,Tryd.ntmps26
 go_wp2_with (first
  |(refine wpList_storeI rfl 69 (.tmp 6) (.tmp 16) rfl _ 69 Z9 P0 9 rfl rfl O0.out size9 rfl rfl ?_)
  |(refine wpList_loadI rfl 69 (.tmp 1) rfl _ 69 r 9 _ rfl I0.out.A Tryd.underlying69 rfl size9 HL.out ?_))
 go_loop [20] (fun iv=> ∃k:Nat,k<=9/\iv= .int .i64 k/\Hid (allTo okS r k)) (fun iv=>9-(intOf iv).toNat)
 case atStart=>exact⟨0,by omega,rfl,hid allTo.zero⟩
 case round=>
  obtain⟨k,hk,rfl,HY⟩:=hrel
  by_cases hlt:k<9
  ·have hix:=HIX.out k hlt
   obtain⟨x,hx⟩: ∃x,x=r.getD k 0:=⟨_,rfl⟩
   rw[<-hx] at hix
   have HX:=hid hx
   clear hx
   by_cases hbad:x< -2147483647\/2147483647<x
   ·have FIN:=hid (lev_ans (levR_bad (all_no (i:=k) (by rw[HL.out];exact hlt) (okS_no (by rw[<-HX.out];exact hbad)))) (below_setRow I0.out.bel (g:=w.heap.size+1) (by omega) (agi Z8)))
    rw[pad_nil] at FIN
    rcases hbad with b1|b1
    ·have b0: ¬2147483647<x:=by omega
     have hRow:=hid (I0.out.R.setRow Z8)
     go_wp2_with (first
      |(refine wpList_loadI rfl 27 (.tmp 5) rfl _ 27 Z8 8 _ rfl I0.out.K Tryd.underlying27 rfl size8 rfl ?_)
      |(refine wpList_storeI rfl 27 (.tmp 2) (.tmp 29) rfl _ 27 Z8 Z8 8 rfl rfl I0.out.R size8 rfl rfl ?_))
     refine bodyPost_ret (v:=_) (hR _ _ _ 27 Z8 _ 8 rfl hRow.out Tryd.underlying27 rfl size8 rfl) rfl ?_
     exact FIN.out
    ·skip
     have hRow:=hid (I0.out.R.setRow Z8)
     go_wp2_with (first
      |(refine wpList_loadI rfl 27 (.tmp 5) rfl _ 27 Z8 8 _ rfl I0.out.K Tryd.underlying27 rfl size8 rfl ?_)
      |(refine wpList_storeI rfl 27 (.tmp 2) (.tmp 29) rfl _ 27 Z8 Z8 8 rfl rfl I0.out.R size8 rfl rfl ?_))
     refine bodyPost_ret (v:=_) (hR _ _ _ 27 Z8 _ 8 rfl hRow.out Tryd.underlying27 rfl size8 rfl) rfl ?_
     exact FIN.out
   ·have b1: -2147483647<=x:=by omega
    have b2:x<=2147483647:=by omega
    have HN:=hid (HY.out.succ (by rw[<-HX.out];exact okS_yes b1 b2))
    clear hbad
    go_wp2
    go_round
    case rel=>exact⟨k+1,by omega,by go_num,HN⟩
    case measure=>simp[intOf]<;>omega
  ·obtain rfl:k=9:=by omega
   have sd:r.all okS=true:=HY.out.all (by rw[HL.out];exact Nat.le_refl _)
   have RW:=hid (okS_within sd)
   clear hlt
   by_cases hlow:r0<=0
   ·have FIN:=hid (lev_ans (levR_low (r:=r) (by rw[<-HR0.out];exact hlow)) (below_setRow I0.out.bel (g:=w.heap.size+1) (by omega) (agi Z8)))
    rw[pad_nil] at FIN
    clear sd
    have hRow:=hid (I0.out.R.setRow Z8)
    go_wp2_with (first
     |(refine wpList_loadI rfl 27 (.tmp 5) rfl _ 27 Z8 8 _ rfl I0.out.K Tryd.underlying27 rfl size8 rfl ?_)
     |(refine wpList_storeI rfl 27 (.tmp 2) (.tmp 33) rfl _ 27 Z8 Z8 8 rfl rfl I0.out.R size8 rfl rfl ?_))
    refine bodyPost_ret (v:=_) (hR _ _ _ 27 Z8 _ 8 rfl hRow.out Tryd.underlying27 rfl size8 rfl) rfl ?_
    exact FIN.out
   ·have h0:0<r0:=by omega
    have ST0:=hid (LevSt.start sd (by rw[<-HR0.out];exact h0))
    rw[<-HR0.out] at ST0
    clear sd hlow
    go_wp2
    go_loopw [7,10] (fun ev mv wr=> ∃(m:Nat) (e:Int) (al k arr:List Int),1<=m/\m<=9/\mv= .int .i64 m/\ev= .int .i64 e/\Hid (LevSt r m al e k)/\Hid (Arr9 arr al)/\Hid (Bx4 w wr r (padTo 8 k) arr)) (fun _ mv _=>9-(intOf mv).toNat)
    case atStart=>exact⟨1,r0,_,[],P0,by omega,by omega,rfl,rfl,ST0,hid ⟨rfl,fun j=>dirN_zero [] j|>.symm⟩,I0⟩
    case round=>
     clear I0 O0 c0 ST0
     obtain⟨m,e,al,k,arr,hm1,hm9,rfl,rfl,ST,HA,HI⟩:=hrel
     obtain⟨wo,rfl⟩: ∃wo:World,wo=wr:=⟨_,rfl⟩
     have LK:=hid (padTo_len (n:=8) (k:=k) (by have:=ST.out.lk;omega))
     by_cases hlt:m<=8
     ·have AB:=hid (ST.out.bnd hm9)
      have he0:=ST.out.e0
      have he1:=ST.out.e1
      go_wp2
      go_loopw [11,39] (fun sv iv wr=> ∃(i d:Nat) (s:Int),i<=m/\iv= .int .i64 i/\sv= .int .i64 s/\Hid (s=sumN (lterm al r m) i)/\Hid (wr=wo.drewN d)) (fun _ iv _=>m-(intOf iv).toNat)
      case atStart=>exact⟨0,0,0,by omega,rfl,rfl,hid rfl,hid rfl⟩
      case round=>
       obtain⟨i,d0,s,hi,rfl,rfl,HS,HW⟩:=hrel
       obtain rfl:=HW.out
       clear HW
       by_cases hil:i<m
       ·obtain⟨d,hd⟩: ∃d:Nat,m=i+d:=⟨m-i,by omega⟩
        have hsub:(m:Int)-(i:Int)=(d:Nat):=by omega
        have c1:=HI.out.P.cell i (by rw[HA.out.1];omega)
        have c2:=HI.out.A.cell d (by rw[HL.out];omega)
        rw[HA.out.2] at c1
        have tb:=lterm_bound (m:=m) AB.out RW.out i
        have sb:=lsum_bound (m:=m) AB.out RW.out i (by omega)
        rw[<-HS.out] at sb
        have HT:=hid (show sumN (lterm al r m) (i+1)=s+lterm al r m i by rw[HS.out];rfl)
        unfold lterm at tb HT
        rw[show m-i=d from by omega] at tb HT
        generalize al.getD i 0=x at*
        generalize r.getD d 0=y at*
        obtain⟨⟨t1,t2⟩,⟨t3,t4⟩,⟨t5,t6⟩⟩:=tb
        obtain⟨s1,s2⟩:=sb
        have hi9:i<9:=by omega
        have hd9:d<9:=by omega
        have HD:=hid hd
        clear hd
        go_wp2
        go_quiet (fail)
        go_wp2
        go_roundw
        case rel=>exact⟨i+1,_,_,by omega,by go_num,rfl,hid (by rw[show sumN (lterm al r m) (i+1)=_ from HT.out]),hid (by first|rfl|simp)⟩
        case measure=>simp[intOf]<;>omega
       ·obtain rfl:m=i:=by omega
        have ID:=hid (HI.out.drewN d0)
        have sb:=lsum_bound (m:=m) AB.out RW.out m (by omega)
        rw[<-HS.out] at sb
        obtain⟨s1,s2⟩:=sb
        obtain⟨q,hq⟩: ∃q,q=(-s*32768).tdiv e:=⟨_,rfl⟩
        have tq:=tdiv_bound (x:= -s*32768) (e:=e) he0
        rw[<-hq] at tq
        have q1: -9223372036854775808<=q:=by omega
        have q2:q<=9223372036854775807:=by omega
        have HQ:=hid (show q=(-lacc al r m*32768).tdiv e by rw[hq,HS.out,lacc_eq])
        have hqe:(-s*32768).tdiv e=q:=hq.symm
        have hene: ¬e=0:=by omega
        clear hq tq hil
        by_cases hb:q<= -32000\/32000<=q
        ·have FIN:=hid (lev_ans (ST.out.stop hm1 hlt HQ.out hb) (below_setRow ID.out.bel (g:=w.heap.size+1) (by omega) (agi (padTo 8 k))))
         rcases hb with b1|b1
         ·skip
          have hRow:=hid (ID.out.R.setRow (padTo 8 k))
          go_wp2_with (first
           |(refine wpList_loadI rfl 27 (.tmp 5) rfl _ 27 (padTo 8 k) 8 _ rfl ID.out.K Tryd.underlying27 rfl size8 LK.out ?_)
           |(refine wpList_storeI rfl 27 (.tmp 2) (.tmp 67) rfl _ 27 Z8 (padTo 8 k) 8 rfl rfl ID.out.R size8 rfl LK.out ?_))
          refine bodyPost_ret (v:=_) (hR _ _ _ 27 (padTo 8 k) _ 8 rfl hRow.out Tryd.underlying27 rfl size8 LK.out) rfl ?_
          exact FIN.out
         ·have b0: ¬q<= -32000:=by omega
          have hRow:=hid (ID.out.R.setRow (padTo 8 k))
          go_wp2_with (first
           |(refine wpList_loadI rfl 27 (.tmp 5) rfl _ 27 (padTo 8 k) 8 _ rfl ID.out.K Tryd.underlying27 rfl size8 LK.out ?_)
           |(refine wpList_storeI rfl 27 (.tmp 2) (.tmp 67) rfl _ 27 Z8 (padTo 8 k) 8 rfl rfl ID.out.R size8 rfl LK.out ?_))
          refine bodyPost_ret (v:=_) (hR _ _ _ 27 (padTo 8 k) _ 8 rfl hRow.out Tryd.underlying27 rfl size8 LK.out) rfl ?_
          exact FIN.out
        ·have b1: -32000<q:=by omega
         have b2:q<32000:=by omega
         clear hb
         obtain⟨j,hj⟩: ∃j,m=j+1:=⟨m-1,by omega⟩
         have hsub1:(m:Int)-1=(j:Nat):=by omega
         have hj8:j<8:=by omega
         have cK:=ID.out.K.cell j (by rw[LK.out];exact hj8)
         have fK:=Blk.frozen ID.out.K j
         have LK2:=hid (padTo_len (n:=8) (k:=k++[q]) (by have:=ST.out.lk;simp;omega))
         have I2:=hid (show Bx4 w ((wo.drewN d0).setCell ⟨w.heap.size+1+1,j,none⟩ (.int .i64 q)) r (padTo 8 (k++[q])) arr by
          have:=ID.out.setK j q
          rw[padTo_snoc q (by have:=ST.out.lk;omega),show k.length=j from by have:=ST.out.lk;omega]
          exact this)
         have hsz:((wo.drewN d0).setCell ⟨w.heap.size+1+1,j,none⟩ (.int .i64 q)).heap.size=wo.heap.size:=by simp[World.setCell]
         have NB0:=IB.new ((wo.drewN d0).setCell ⟨w.heap.size+1+1,j,none⟩ (.int .i64 q)) 69 Z9
         have I3:=I2.out.stored (.cells (agi Z9) 69) (agi arr)
         rw[hsz] at NB0 I3
         have NB1:=hid (NB0.setRow arr)
         have NB0:=hid NB0
         have I3:=hid I3
         have hlt0:=ID.out.lt
         have hlt1:w.heap.size+1+1+1<wo.heap.size:=hlt0
         have MID:=hid (LevMid.start (q:=q) (m:=m) HA.out)
         rw[z9_eq] at I3 NB1
         clear hsz hlt0 hj HS
         go_wp2_with (first
          |(refine wpList_loadI rfl 69 (.tmp 6) rfl _ 69 arr 9 _ rfl I2.out.P Tryd.underlying69 rfl size9 HA.out.1 ?_)
          |(refine wpList_storeI rfl 69 (.tmp 14) (.tmp 73) rfl _ 69 Z9 arr 9 rfl rfl NB0.out size9 rfl HA.out.1 ?_))
         go_loopw [15] (fun iv wr=> ∃(i:Nat) (zs:List Int),1<=i/\i<=m+1/\iv= .int .i64 i/\Hid (LevMid al zs q m i)/\Hid (Bx4 w wr r (padTo 8 (k++[q])) zs)/\Hid (IB wr wo.heap.size 69 arr)) (fun iv _=>m+1-(intOf iv).toNat)
         case atStart=>exact⟨1,arr,by omega,by omega,rfl,MID,I3,NB1⟩
         case round=>
          clear I3 NB1 NB0 I2 MID cK fK
          obtain⟨i,zs,hi1,hi2,rfl,HM,HI2,HW2⟩:=hrel
          by_cases hle:i<=m
          ·obtain⟨d,hd⟩: ∃d:Nat,m=i+d:=⟨m-i,by omega⟩
           have hsub:(m:Int)-(i:Int)=(d:Nat):=by omega
           have c1:=HW2.out.cell i (by rw[HA.out.1];omega)
           have c2:=HW2.out.cell d (by rw[HA.out.1];omega)
           have c3:=HI2.out.P.cell i (by rw[HM.out.1];omega)
           have f3:=Blk.frozen HI2.out.P i
           rw[HA.out.2] at c1 c2
           have bx:=AB.out i
           have by':=AB.out d
           have STP:=hid (HM.out.step hi1 hle (by omega))
           rw[show m-i=d from by omega] at STP
           generalize al.getD i 0=x at*
           generalize al.getD d 0=y at*
           obtain⟨bx1,bx2⟩:=bx
           obtain⟨by1,by2⟩:=by'
           have pr:=mul_bound (x:=q) (X:=32768) (y:=y) (Y:=4294967296) (by omega) (by omega) ⟨by omega,by omega⟩ ⟨by omega,by omega⟩
           have p1: -140737488355328<=q*y:=by omega
           have p2:q*y<=140737488355328:=by omega
           have NI:=hid (HI2.out.setP i (x+q*y/32768)).drew
           have NW:=hid (Blk.far HW2.out (p:=⟨w.heap.size+1+1+1,i,none⟩) (by show wo.heap.size≠w.heap.size+1+1+1;omega) (.int .i64 (x+q*y/32768)))
           have hd9:d<9:=by omega
           have hi9:i<9:=by omega
           clear pr hd
           go_wp2
           go_region
           all_goals
            go_wp2
            go_roundw
            case rel=>exact⟨i+1,_,by omega,by omega,by go_num,STP,NI,NW⟩
            case measure=>simp[intOf]<;>omega
          ·obtain rfl:i=m+1:=by omega
           have AF:=hid (HM.out.fin ST.out.la)
           obtain⟨⟨u1,u2⟩,⟨u3,u4⟩,u5,u6⟩:=e_bound he0 he1 b1 b2
           by_cases hend:e-e*q/32768*q/32768<=0
           ·have FIN:=hid (lev_ans (ST.out.none_ hm1 hlt HQ.out b1 b2 hend) (below_setRow HI2.out.bel (g:=w.heap.size+1) (by omega) (agi (padTo 8 (k++[q])))))
            have hRow:=hid (HI2.out.R.setRow (padTo 8 (k++[q])))
            go_wp2_with (first
             |(refine wpList_loadI rfl 27 (.tmp 5) rfl _ 27 (padTo 8 (k++[q])) 8 _ rfl HI2.out.K Tryd.underlying27 rfl size8 LK2.out ?_)
             |(refine wpList_storeI rfl 27 (.tmp 2) (.tmp 104) rfl _ 27 Z8 (padTo 8 (k++[q])) 8 rfl rfl HI2.out.R size8 rfl LK2.out ?_))
            refine bodyPost_ret (v:=_) (hR _ _ _ 27 (padTo 8 (k++[q])) _ 8 rfl hRow.out Tryd.underlying27 rfl size8 LK2.out) rfl ?_
            exact FIN.out
           ·have NST:=hid (ST.out.next hm1 hlt HQ.out b1 b2 (by omega))
            have hend2:0<e-e*q/32768*q/32768:=by omega
            go_wp2
            go_roundw
            case rel=>exact⟨m+1,_,_,_,zs,by omega,by omega,by go_num,rfl,NST,AF,HI2⟩
            case measure=>simp[intOf]<;>omega
     ·obtain rfl:m=9:=by omega
      have FIN:=hid (lev_ans ST.out.fin (below_setRow HI.out.bel (g:=w.heap.size+1) (by omega) (agi (padTo 8 k))))
      clear hlt
      have hRow:=hid (HI.out.R.setRow (padTo 8 k))
      go_wp2_with (first
       |(refine wpList_loadI rfl 27 (.tmp 5) rfl _ 27 (padTo 8 k) 8 _ rfl HI.out.K Tryd.underlying27 rfl size8 LK.out ?_)
       |(refine wpList_storeI rfl 27 (.tmp 2) (.tmp 105) rfl _ 27 Z8 (padTo 8 k) 8 rfl rfl HI.out.R size8 rfl LK.out ?_))
      refine bodyPost_ret (v:=_) (hR _ _ _ 27 (padTo 8 k) _ 8 rfl hRow.out Tryd.underlying27 rfl size8 LK.out) rfl ?_
      exact FIN.out
end Go.Proofs.YthoiikkjjaldnaaDoor
