/- Texts that the law rests on, laid together: ExpW, DirW. -/
import Derived.Test.YthoiikkjjaldnaaDoorZ4b8d9d
import Derived.Test.YthoiikkjjaldnaaDoorZcd86f7
import Derived.Test.YthoiikkjjaldnaaDoorZbe9dc0
set_option maxHeartbeats 8000000
namespace Go.Proofs.YthoiikkjjaldnaaDoor
set_option linter.unusedVariables false
set_option linter.unusedSimpArgs false
set_option maxRecDepth 100000
open Go.RowKit
def Exps (w:World) (a:List Int) (g:Int) (e:Ending) (w':World):Prop:=e= .returned (.tuple #[.agg (agi (exL a g)),.int .i64 (errOf (exB a g))])/\Below w.heap.size w w'
theorem exp_bad {w w':World} {a:List Int} {g:Int} (h:exB a g=false) (hB:Below w.heap.size w w'):Exps w a g (.returned (.tuple #[.agg (agi Z9),.int .i64 2])) w':=by
 refine⟨?_,hB⟩
 unfold exL errOf
 rw[h]
 rfl
theorem exp_good {w w':World} {a ys:List Int} {g:Int} (h:exB a g=true) (hl:ys.length=9) (hy: ∀j,j<9->ys.getD j 0=exE a g j) (hB:Below w.heap.size w w'):Exps w a g (.returned (.tuple #[.agg (agi ys),.int .i64 0])) w':=by
 refine⟨?_,hB⟩
 have e:ys=exL a g:=by
  apply list_ext (by rw[hl,exL_len])
  intro j hj
  rw[hy j (by omega)]
  unfold exL
  rw[if_pos h,List.getD_eq_getElem?_getD,List.getElem?_map,List.getElem?_range (by omega)]
  rfl
 unfold errOf
 rw[h,e]
 rfl
theorem okA_yes {x:Int} (h1: -1073741824<=x) (h2:x<=1073741824):okA x=true:=by unfold okA;simp;omega
theorem okA_no {x:Int} (h:x< -1073741824\/1073741824<x):okA x=false:=by unfold okA;simp;omega
theorem exB_g {a:List Int} {g:Int} (h:g<0\/32768<g):exB a g=false:=by unfold exB;simp;omega
theorem exB_a {a:List Int} {g:Int} {k:Nat} (hk:k<a.length) (h:a.getD k 0< -1073741824\/1073741824<a.getD k 0):exB a g=false:=by
 unfold exB;rw[all_no hk (okA_no h)];simp
theorem exB_yes {a:List Int} {g:Int} (h0:0<=g) (h1:g<=32768) (h:allTo okA a 9) (hl:a.length=9):exB a g=true:=by
 unfold exB;rw[h.all (by omega)];simp;omega
theorem ex_prod {x f:Int} (h1: -1073741824<=x) (h2:x<=1073741824) (h3:0<=f) (h4:f<=32768): -35184372088832<=x*f/\x*f<=35184372088832:=by
 have:=mul_bound (x:=x) (X:=1073741824) (y:=f) (Y:=32768) (by omega) (by omega) ⟨by omega,by omega⟩ ⟨by omega,by omega⟩
 omega
theorem ex_fprod {f g:Int} (h1:0<=f) (h2:f<=32768) (h3:0<=g) (h4:g<=32768):0<=f*g/\f*g<=1073741824:=by
 have:=mul_bound (x:=f) (X:=32768) (y:=g) (Y:=32768) (by omega) (by omega) ⟨by omega,by omega⟩ ⟨by omega,by omega⟩
 have:=Int.mul_nonneg h1 h3
 omega
structure Bx2 (t:TypeId) (w wr:World) (a r:List Int):Prop where
 A:IB wr w.heap.size t a
 R:IB wr (w.heap.size+1) 69 r
 bel:Below w.heap.size w wr
theorem Bx2.lt {t:TypeId} {w wr:World} {a r:List Int} (h:Bx2 t w wr a r):w.heap.size+1<wr.heap.size:=Blk.lt h.R
theorem Bx2.below {t:TypeId} {w wr wr':World} {a r:List Int} (h:Bx2 t w wr a r) (hb:Below wr.heap.size wr wr'):Bx2 t w wr' a r:=
 ⟨Blk.below' h.A hb,Blk.below' h.R hb,h.bel.trans (hb.mono (by have:=h.lt;omega))⟩
theorem Bx2.setCell {t:TypeId} {w wr:World} {a r:List Int} (h:Bx2 t w wr a r) {g:Nat} (hg:w.heap.size+1<g) (k:Nat) (v:Value):Bx2 t w (wr.setCell ⟨g,k,none⟩ v) a r:=
 ⟨Blk.far h.A (by show w.heap.size≠g;omega) _,Blk.far h.R (by show w.heap.size+1≠g;omega) _,h.bel.setCell (p:=⟨g,k,none⟩) (by show w.heap.size<=g;omega) _⟩
theorem Bx2.setA {t:TypeId} {w wr:World} {a r:List Int} (h:Bx2 t w wr a r) (k:Nat) (v:Int):Bx2 t w (wr.setCell ⟨w.heap.size,k,none⟩ (.int .i64 v)) (a.set k v) r:=
 ⟨IB.set_ h.A k v,Blk.far h.R (by show w.heap.size+1≠w.heap.size;omega) _,h.bel.setCell (p:=⟨w.heap.size,k,none⟩) (Nat.le_refl _) _⟩
theorem Bx2.drew {t:TypeId} {w wr:World} {a r:List Int} (h:Bx2 t w wr a r):Bx2 t w wr.drew a r:=⟨h.A,h.R,h.bel.drew⟩
theorem Bx2.start (t:TypeId) (w:World) (a:List Int):Bx2 t w ((w.alloc (.cells (agi a) t)).alloc (.cells (agi Z9) 69)) a Z9:=by
 have h1:=IB.new w t a
 have h2:=IB.new (w.alloc (.cells (agi a) t)) 69 Z9
 simp only[World.size_alloc] at h2
 exact⟨Blk.alloc h1 _,h2,(((Below.refl _ _).alloc (Nat.le_refl _) _).alloc (by simp) _)⟩
theorem expand_any (a:List Int) (g:Int) (w:World) (ha:a.length=9):Calls Tryd.prog 37 #[.agg (agi a),.int .i64 g] w (Exps w a g):=by
 have I0:=hid (Bx2.start 69 w a)
 have hR:=results_row2 (fn:=Tryd.f37) (p:=4) (q:=5) (ty:=69) rfl
 have HA:=hid ha
 by_cases h1:g<0\/32768<g
 ·have FIN:=hid (exp_bad (a:=a) (g:=g) (exB_g h1) (below_setRow I0.out.bel (g:=w.heap.size+1) (by omega) (agi Z9)))
  have hRow2:=hid (I0.out.R.setRow Z9)
  clear ha
  rcases h1 with h1|h1
  ·have d1:decide (g<0)=true:=by simpa using h1
   go_enter Tryd.func37,Tryd.ntmps37
   go_wp2_with (refine wpList_storeI rfl 69 (.tmp 4) (.tmp 14) rfl _ 69 Z9 Z9 9 rfl rfl I0.out.R size9 rfl rfl ?_)
   refine bodyPost_ret (v:=_) (hR _ _ _ 69 Z9 _ 9 rfl hRow2.out Tryd.underlying69 rfl size9 rfl) rfl ?_
   exact FIN.out
  ·have d1:decide (g<0)=false:=by simp;omega
   have d2:decide (32768<g)=true:=by simpa using h1
   go_enter Tryd.func37,Tryd.ntmps37
   go_wp2_with (refine wpList_storeI rfl 69 (.tmp 4) (.tmp 14) rfl _ 69 Z9 Z9 9 rfl rfl I0.out.R size9 rfl rfl ?_)
   refine bodyPost_ret (v:=_) (hR _ _ _ 69 Z9 _ 9 rfl hRow2.out Tryd.underlying69 rfl size9 rfl) rfl ?_
   exact FIN.out
 ·have h0:0<=g:=by omega
  have h4:g<=32768:=by omega
  have d1:decide (g<0)=false:=by simp;omega
  have d2:decide (32768<g)=false:=by simp;omega
  have FX:=hid (fun k=>exF_range h0 h4 k)
  rw[z9_eq] at I0
  clear h1 ha
  go_enter Tryd.func37,Tryd.ntmps37
  go_wp2
  go_loopw [6,15] (fun fv iv wr=> ∃(k:Nat) (ys:List Int) (f:Int),k<=9/\iv= .int .i64 k/\fv= .int .i64 f/\Hid (f=exF g k/\ys.length=9/\allTo okA a k/\(∀j,j<k->ys.getD j 0=exE a g j)/\∀j,k<=j->ys.getD j 0=a.getD j 0)/\Hid (Bx2 69 w wr ys Z9)) (fun _ iv _=>9-(intOf iv).toNat)
  case atStart=>exact⟨0,a,32768,by omega,rfl,rfl,hid ⟨rfl,HA.out,allTo.zero,fun j h=>by omega,fun j _=>rfl⟩,I0⟩
  case round=>
   clear I0
   obtain⟨k,ys,f,hk,rfl,rfl,HY,HI⟩:=hrel
   obtain⟨f0,f1⟩:=FX.out k
   rw[<-HY.out.1] at f0 f1
   by_cases hlt:k<9
   ·have ca:=HI.out.A.cell k (by rw[HY.out.2.1];exact hlt)
    have fa:=Blk.frozen HI.out.A k
    rw[HY.out.2.2.2.2 k (Nat.le_refl _)] at ca
    obtain⟨x,hx⟩: ∃x,x=a.getD k 0:=⟨_,rfl⟩
    rw[<-hx] at ca
    have HX:=hid hx
    clear hx
    by_cases hbad:x< -1073741824\/1073741824<x
    ·have FIN:=hid (exp_bad (a:=a) (g:=g) (exB_a (k:=k) (by rw[HA.out];exact hlt) (by rw[<-HX.out];exact hbad)) (below_setRow HI.out.bel (g:=w.heap.size+1) (by omega) (agi Z9)))
     have hRow:=hid (HI.out.R.setRow Z9)
     rcases hbad with b1|b1
     ·go_wp2_with (refine wpList_storeI rfl 69 (.tmp 4) (.tmp 28) rfl _ 69 Z9 Z9 9 rfl rfl HI.out.R size9 rfl rfl ?_)
      refine bodyPost_ret (v:=_) (hR _ _ _ 69 Z9 _ 9 rfl hRow.out Tryd.underlying69 rfl size9 rfl) rfl ?_
      exact FIN.out
     ·have b0: ¬x< -1073741824:=by omega
      go_wp2_with (refine wpList_storeI rfl 69 (.tmp 4) (.tmp 28) rfl _ 69 Z9 Z9 9 rfl rfl HI.out.R size9 rfl rfl ?_)
      refine bodyPost_ret (v:=_) (hR _ _ _ 69 Z9 _ 9 rfl hRow.out Tryd.underlying69 rfl size9 rfl) rfl ?_
      exact FIN.out
    ·have b1: -1073741824<=x:=by omega
     have b2:x<=1073741824:=by omega
     obtain⟨m1,m2⟩:=ex_prod b1 b2 f0 f1
     obtain⟨m3,m4⟩:=ex_fprod f0 f1 h0 h4
     have NEXT:=hid (show Hid ((f*g+16384)/32768=exF g (k+1)/\(ys.set k ((x*f+16384)/32768)).length=9/\allTo okA a (k+1)/\(∀j,j<k+1->(ys.set k ((x*f+16384)/32768)).getD j 0=exE a g j)/\∀j,k+1<=j->(ys.set k ((x*f+16384)/32768)).getD j 0=a.getD j 0) from by
      obtain⟨q0,q1,q2,q3,q4⟩:=HY.out
      refine⟨by rw[q0];rfl,by simpa using q1,q2.succ (by rw[<-HX.out];exact okA_yes b1 b2),fun j hj=>?_,fun j hj=>?_⟩
      ·by_cases he:k=j
       ·subst he
        rw[get_set_same _ _ _ (by omega),exE,<-HX.out,<-q0]
       ·rw[get_set_other _ _ he]
        exact q3 j (by omega)
      ·rw[get_set_other _ _ (by omega)]
       exact q4 j (by omega))
     have NI:=hid (HI.out.setA k ((x*f+16384)/32768))
     clear hbad
     go_wp2
     go_roundw
     case rel=>exact⟨k+1,_,_,by omega,by go_num,rfl,NEXT.out,NI⟩
     case measure=>simp[intOf]<;>omega
   ·obtain rfl:k=9:=by omega
    have hg:=exB_yes h0 h4 HY.out.2.2.1 HA.out
    have FIN:=hid (exp_good hg HY.out.2.1 HY.out.2.2.2.1 (below_setRow HI.out.bel (g:=w.heap.size+1) (by omega) (agi ys)))
    have hRow:=hid (HI.out.R.setRow ys)
    clear hlt hg
    go_wp2_with (first
     |(refine wpList_loadI rfl 69 (.tmp 2) rfl _ 69 ys 9 _ rfl HI.out.A Tryd.underlying69 rfl size9 HY.out.2.1 ?_)
     |(refine wpList_storeI rfl 69 (.tmp 4) (.tmp 44) rfl _ 69 Z9 ys 9 rfl rfl HI.out.R size9 rfl HY.out.2.1 ?_))
    refine bodyPost_ret (v:=_) (hR _ _ _ 69 ys _ 9 rfl hRow.out Tryd.underlying69 rfl size9 HY.out.2.1) rfl ?_
    exact FIN.out
end Go.Proofs.YthoiikkjjaldnaaDoor
namespace Go.Proofs.YthoiikkjjaldnaaDoor
set_option linter.unusedVariables false
set_option linter.unusedSimpArgs false
set_option maxRecDepth 100000
open Go.RowKit
theorem map_range_get {n j:Nat} (f:Nat->Int) (h:j<n):((List.range n).map f).getD j 0=f j:=by
 rw[List.getD_eq_getElem?_getD,List.getElem?_map,List.getElem?_range h]
 rfl
def Dirs (w:World) (a:List Int) (e:Ending) (w':World):Prop:=e= .returned (.tuple #[.agg (agi (dirL a)),.int .i64 (errOf (steadyB a))])/\Below w.heap.size w w'
theorem dir_bad {w w':World} {a:List Int} (h:steadyB a=false) (hB:Below w.heap.size w w'):Dirs w a (.returned (.tuple #[.agg (agi Z9),.int .i64 2])) w':=by
 refine⟨?_,hB⟩
 unfold dirL errOf
 rw[h]
 rfl
theorem dir_good {w w':World} {a ys:List Int} (h:steadyB a=true) (hl:ys.length=9) (hy: ∀j,j<9->ys.getD j 0=((dirN a 8).getD j 0+2048)/4096) (hB:Below w.heap.size w w'):Dirs w a (.returned (.tuple #[.agg (agi ys),.int .i64 0])) w':=by
 refine⟨?_,hB⟩
 have e:ys=dirL a:=by
  apply list_ext (by rw[hl,dirL_len])
  intro j hj
  rw[hy j (by omega)]
  unfold dirL
  rw[if_pos h,map_range_get _ (show j<9 by omega)]
 unfold errOf
 rw[h,e]
 rfl
def P0:List Int:=[16777216,0,0,0,0,0,0,0,0]
theorem dirN_zero (k:List Int) (j:Nat):(dirN k 0).getD j 0=P0.getD j 0:=by
 match j with
 |0=>rfl
 |1=>rfl
 |2=>rfl
 |3=>rfl
 |4=>rfl
 |5=>rfl
 |6=>rfl
 |7=>rfl
 |8=>rfl
 |j+9=>rfl
theorem dirN_get (k:List Int) (m i:Nat) (h0:1<=i) (h:i<=m+1):(dirN k (m+1)).getD i 0=(dirN k m).getD i 0+k.getD m 0*(dirN k m).getD (m+1-i) 0/32768:=by
 rw[dirN,growL_get _ _ _ _ h,if_neg (by omega)]
theorem dirN_head (k:List Int) (m:Nat):(dirN k (m+1)).getD 0 0=(dirN k m).getD 0 0:=by
 rw[dirN,growL_get _ _ _ _ (by omega),if_pos rfl]
theorem dirN_over (k:List Int) (m i:Nat) (h:m<i):(dirN k m).getD i 0=0:=by
 rw[List.getD_eq_getElem?_getD,List.getElem?_eq_none (by rw[dirN_len];omega)];rfl
theorem dirN_bd {k:List Int} (h: ∀i,-32768<k.getD i 0/\k.getD i 0<32768) {m:Nat} (hm:m<=8) (i:Nat): -4294967296<=(dirN k m).getD i 0/\(dirN k m).getD i 0<=4294967296:=by
 have h1:=dirN_within (k:=k) (fun i=>⟨by have:=h i;omega,by have:=h i;omega⟩) m i
 have h2:(2:Nat)^m<=2^8:=Nat.pow_le_pow_right (by decide) hm
 have h3:((2^m:Nat):Int)=2^m:=by simp
 omega
def DirMid (a ys:List Int) (m i:Nat):Prop:=ys.length=9/\∀j,ys.getD j 0=if j<i then(dirN a (m+1)).getD j 0 else(dirN a m).getD j 0
theorem DirMid.start {a ys:List Int} {m:Nat} (hl:ys.length=9) (h: ∀j,ys.getD j 0=(dirN a m).getD j 0):DirMid a ys m 1:=⟨hl,fun j=>by
 rw[h j]
 split
 ·obtain rfl:j=0:=by omega
  exact(dirN_head a m).symm
 ·rfl⟩
theorem DirMid.step {a ys:List Int} {m i:Nat} (h:DirMid a ys m i) (h0:1<=i) (hi:i<=m+1) (h9:i<9):
 DirMid a (ys.set i ((dirN a m).getD i 0+a.getD m 0*(dirN a m).getD (m+1-i) 0/32768)) m (i+1):=by
 refine⟨by simpa using h.1,fun j=>?_⟩
 by_cases he:i=j
 ·subst he
  rw[get_set_same _ _ _ (by rw[h.1];exact h9),if_pos (by omega),dirN_get a m i h0 hi]
 ·rw[get_set_other _ _ he,h.2 j]
  by_cases hj:j<i
  ·rw[if_pos hj,if_pos (by omega)]
  ·rw[if_neg hj,if_neg (by omega)]
theorem DirMid.fin {a ys:List Int} {m:Nat} (h:DirMid a ys m (m+2)): ∀j,ys.getD j 0=(dirN a (m+1)).getD j 0:=fun j=>by
 rw[h.2 j]
 split
 ·rfl
 ·rw[dirN_over a m j (by omega),dirN_over a (m+1) j (by omega)]
theorem direct_any (a:List Int) (w:World) (ha:a.length=8):Calls Tryd.prog 36 #[.agg (agi a)] w (Dirs w a):=by
 have I0:=hid (Bx2.start 27 w a)
 have hR:=results_row2 (fn:=Tryd.f36) (p:=2) (q:=3) (ty:=69) rfl
 have HA:=hid ha
 have HIX:=hid (fun(k:Nat) (hk:k<8) (w:World)=>run_index_agi Tryd.underlying27 a ha k hk w)
 have O1:=IB.new ((w.alloc (.cells (agi a) 27)).alloc (.cells (agi Z9) 69)) 69 Z9
 have I1:=hid ((I0.out.below ((Below.refl _ _).alloc (Nat.le_refl _) (.cells (agi Z9) 69))))
 simp only[World.size_alloc] at O1
 have O2:=hid (IB.setRow O1 P0)
 have I2:=hid (show Bx2 27 w ((((w.alloc (.cells (agi a) 27)).alloc (.cells (agi Z9) 69)).alloc (.cells (agi Z9) 69)).setRow (w.heap.size+1+1) (agi P0)) a Z9 from
  ⟨Blk.rowFar I1.out.A (by omega),Blk.rowFar I1.out.R (by omega),below_setRow I1.out.bel (by omega) _⟩)
 have O1:=hid O1
 clear ha I0
 go_enter Tryd.func36,Tryd.ntmps36
 go_wp2_with (first
  |(refine wpList_storeI rfl 69 (.tmp 4) (.tmp 12) rfl _ 69 Z9 P0 9 rfl rfl O1.out size9 rfl rfl ?_)
  |(refine wpList_loadI rfl 27 (.tmp 1) rfl _ 27 a 8 _ rfl I2.out.A Tryd.underlying27 rfl size8 HA.out ?_))
 go_loop [14] (fun iv=> ∃k:Nat,k<=8/\iv= .int .i64 k/\Hid (allTo okR a k)) (fun iv=>8-(intOf iv).toNat)
 case atStart=>exact⟨0,by omega,rfl,hid allTo.zero⟩
 case round=>
  obtain⟨k,hk,rfl,HY⟩:=hrel
  by_cases hlt:k<8
  ·have hix:=HIX.out k hlt
   obtain⟨x,hx⟩: ∃x,x=a.getD k 0:=⟨_,rfl⟩
   rw[<-hx] at hix
   have HX:=hid hx
   clear hx
   by_cases hbad:x<= -32768\/32768<=x
   ·have FIN:=hid (dir_bad (a:=a) (all_no (i:=k) (by rw[HA.out];exact hlt) (okR_no (by rw[<-HX.out];exact hbad))) (below_setRow I2.out.bel (g:=w.heap.size+1) (by omega) (agi Z9)))
    have hRow:=hid (I2.out.R.setRow Z9)
    rcases hbad with b1|b1
    ·go_wp2_with (refine wpList_storeI rfl 69 (.tmp 2) (.tmp 23) rfl _ 69 Z9 Z9 9 rfl rfl I2.out.R size9 rfl rfl ?_)
     refine bodyPost_ret (v:=_) (hR _ _ _ 69 Z9 _ 9 rfl hRow.out Tryd.underlying69 rfl size9 rfl) rfl ?_
     exact FIN.out
    ·have b0: ¬x<= -32768:=by omega
     go_wp2_with (refine wpList_storeI rfl 69 (.tmp 2) (.tmp 23) rfl _ 69 Z9 Z9 9 rfl rfl I2.out.R size9 rfl rfl ?_)
     refine bodyPost_ret (v:=_) (hR _ _ _ 69 Z9 _ 9 rfl hRow.out Tryd.underlying69 rfl size9 rfl) rfl ?_
     exact FIN.out
   ·have b1: -32768<x:=by omega
    have b2:x<32768:=by omega
    have HN:=hid (HY.out.succ (by rw[<-HX.out];exact okR_yes b1 b2))
    clear hbad
    go_wp2
    go_round
    case rel=>exact⟨k+1,by omega,by go_num,HN⟩
    case measure=>simp[intOf]<;>omega
  ·obtain rfl:k=8:=by omega
   have sd:steadyB a=true:=HY.out.all (by rw[HA.out];exact Nat.le_refl _)
   have SD:=hid sd
   have SA:=hid (fun i=>steadyB_at sd i)
   clear hlt sd
   go_wp2_with (refine wpList_loadI rfl 27 (.tmp 1) rfl _ 27 a 8 _ rfl I2.out.A Tryd.underlying27 rfl size8 HA.out ?_)
   go_loopw [26] (fun iv wr=> ∃(m:Nat) (ys:List Int),m<=8/\iv= .int .i64 m/\Hid (ys.length=9/\∀j,ys.getD j 0=(dirN a m).getD j 0)/\Hid (Bx2 27 w wr a Z9)/\Hid (IB wr (w.heap.size+1+1) 69 ys)) (fun iv _=>8-(intOf iv).toNat)
   case atStart=>exact⟨0,P0,by omega,rfl,hid ⟨rfl,fun j=>(dirN_zero a j).symm⟩,I2,O2⟩
   case round=>
    clear I2 O2 O1 I1
    obtain⟨m,ys,hm,rfl,HY,HI,HO⟩:=hrel
    obtain⟨wo,rfl⟩: ∃wo:World,wo=wr:=⟨_,rfl⟩
    by_cases hlt:m<8
    ·have hix:=HIX.out m hlt
     obtain⟨q,hq⟩: ∃q,q=a.getD m 0:=⟨_,rfl⟩
     rw[<-hq] at hix
     have sq:=SA.out m
     rw[<-hq] at sq
     obtain⟨q1,q2⟩:=sq
     have HQ:=hid hq
     clear hq
     have NB:=hid (IB.stored wo 69 Z9 ys)
     have OB:=hid (Blk.stored (c2:=agi ys) HO.out (.cells (agi Z9) 69))
     have hne:=Blk.lt HO.out
     have IB2:=hid (show Bx2 27 w ((wo.alloc (.cells (agi Z9) 69)).setRow wo.heap.size (agi ys)) a Z9 from
      ⟨Blk.stored HI.out.A _,Blk.stored HI.out.R _,HI.out.bel.trans ((below_stored wo _ _).mono (by have:=HI.out.lt;omega))⟩)
     have MID:=hid (DirMid.start HY.out.1 HY.out.2)
     rw[z9_eq] at NB OB IB2
     go_wp2_with (first
      |(refine wpList_loadI rfl 69 (.tmp 4) rfl _ 69 ys 9 _ rfl HO.out Tryd.underlying69 rfl size9 HY.out.1 ?_)
      |(refine wpList_storeI rfl 69 (.tmp 9) (.tmp 30) rfl _ 69 Z9 ys 9 rfl rfl (IB.new wo 69 Z9) size9 rfl HY.out.1 ?_))
     go_loopw [10] (fun jv wr2=> ∃(i:Nat) (zs:List Int),1<=i/\i<=m+2/\jv= .int .i64 i/\Hid (DirMid a zs m i)/\Hid (Bx2 27 w wr2 a Z9)/\Hid (IB wr2 (w.heap.size+1+1) 69 zs)/\Hid (IB wr2 wo.heap.size 69 ys)) (fun jv _=>m+2-(intOf jv).toNat)
     case atStart=>exact⟨1,ys,by omega,by omega,rfl,MID,IB2,OB,NB⟩
     case round=>
      clear NB OB IB2 MID
      obtain⟨i,zs,hi1,hi2,rfl,HM,HI2,HO2,HW2⟩:=hrel
      by_cases hle:i<=m+1
      ·obtain⟨d,hd⟩: ∃d:Nat,m+1=i+d:=⟨m+1-i,by omega⟩
       have hsub:(m:Int)+1-(i:Int)=(d:Nat):=by omega
       have c1:=HW2.out.cell i (by rw[HY.out.1];omega)
       have c2:=HW2.out.cell d (by rw[HY.out.1];omega)
       have c3:=HO2.out.cell i (by rw[HM.out.1];omega)
       have f3:=Blk.frozen HO2.out i
       rw[HY.out.2] at c1 c2
       have bx:=dirN_bd SA.out hm i
       have by':=dirN_bd SA.out hm d
       have ST:=hid (HM.out.step hi1 hle (by omega))
       rw[<-HQ.out,show m+1-i=d from by omega] at ST
       generalize (dirN a m).getD i 0=x at*
       generalize (dirN a m).getD d 0=y at*
       obtain⟨bx1,bx2⟩:=bx
       obtain⟨by1,by2⟩:=by'
       have pr:=mul_bound (x:=q) (X:=32768) (y:=y) (Y:=4294967296) (by omega) (by omega) ⟨by omega,by omega⟩ ⟨by omega,by omega⟩
       have p1: -140737488355328<=q*y:=by omega
       have p2:q*y<=140737488355328:=by omega
       have NI:=hid (HI2.out.setCell (g:=w.heap.size+1+1) (by omega) i (.int .i64 (x+q*y/32768))).drew
       have NO:=hid (IB.set_ HO2.out i (x+q*y/32768))
       have NW:=hid (Blk.far HW2.out (p:=⟨w.heap.size+1+1,i,none⟩) (by show wo.heap.size≠w.heap.size+1+1;omega) (.int .i64 (x+q*y/32768)))
       have hd9:d<9:=by omega
       have hi9:i<9:=by omega
       clear pr hd
       go_wp2
       go_region
       all_goals
        go_wp2
        go_roundw
        case rel=>exact⟨i+1,_,by omega,by omega,by go_num,ST,NI,NO,NW⟩
        case measure=>simp[intOf]<;>omega
      ·obtain rfl:i=m+2:=by omega
       have HF:=hid (show zs.length=9/\∀j,zs.getD j 0=(dirN a (m+1)).getD j 0 from⟨HM.out.1,HM.out.fin⟩)
       go_wp2
       go_roundw
       case rel=>exact⟨m+1,zs,by omega,by go_num,HF,HI2,HO2⟩
       case measure=>simp[intOf]<;>omega
    ·obtain rfl:m=8:=by omega
     have BD:=hid (fun j=>dirN_bd SA.out (show 8<=8 by omega) j)
     clear hlt
     go_wp2
     go_loopw [53] (fun iv wr=> ∃(k:Nat) (zs:List Int),k<=9/\iv= .int .i64 k/\Hid (zs.length=9/\(∀j,j<k->zs.getD j 0=((dirN a 8).getD j 0+2048)/4096)/\∀j,k<=j->zs.getD j 0=(dirN a 8).getD j 0)/\Hid (Bx2 27 w wr a Z9)/\Hid (IB wr (w.heap.size+1+1) 69 zs)) (fun iv _=>9-(intOf iv).toNat)
     case atStart=>exact⟨0,ys,by omega,rfl,hid ⟨HY.out.1,fun j h=>by omega,fun j _=>HY.out.2 j⟩,HI,HO⟩
     case round=>
      clear HI HO HY
      obtain⟨k,zs,hk,rfl,HY,HI,HO⟩:=hrel
      by_cases hlt:k<9
      ·have c3:=HO.out.cell k (by rw[HY.out.1];exact hlt)
       have f3:=Blk.frozen HO.out k
       rw[HY.out.2.2 k (Nat.le_refl _)] at c3
       obtain⟨b1,b2⟩:=BD.out k
       obtain⟨x,hx⟩: ∃x,x=(dirN a 8).getD k 0:=⟨_,rfl⟩
       rw[<-hx] at c3 b1 b2
       have HX:=hid hx
       clear hx
       have NEXT:=hid (show Hid ((zs.set k ((x+2048)/4096)).length=9/\(∀j,j<k+1->(zs.set k ((x+2048)/4096)).getD j 0=((dirN a 8).getD j 0+2048)/4096)/\∀j,k+1<=j->(zs.set k ((x+2048)/4096)).getD j 0=(dirN a 8).getD j 0) from by
        obtain⟨q1,q3,q4⟩:=HY.out
        refine⟨by simpa using q1,fun j hj=>?_,fun j hj=>?_⟩
        ·by_cases he:k=j
         ·subst he
          rw[get_set_same _ _ _ (by omega),HX.out]
         ·rw[get_set_other _ _ he]
          exact q3 j (by omega)
        ·rw[get_set_other _ _ (by omega)]
         exact q4 j (by omega))
       have NI:=hid (HI.out.setCell (g:=w.heap.size+1+1) (by omega) k (.int .i64 ((x+2048)/4096)))
       have NO:=hid (IB.set_ HO.out k ((x+2048)/4096))
       go_wp2
       go_roundw
       case rel=>exact⟨k+1,_,by omega,by go_num,NEXT.out,NI,NO⟩
       case measure=>simp[intOf]<;>omega
      ·obtain rfl:k=9:=by omega
       have FIN:=hid (dir_good SD.out HY.out.1 HY.out.2.1 (below_setRow HI.out.bel (g:=w.heap.size+1) (by omega) (agi zs)))
       have hRow:=hid (HI.out.R.setRow zs)
       clear hlt
       go_wp2_with (first
        |(refine wpList_loadI rfl 69 (.tmp 4) rfl _ 69 zs 9 _ rfl HO.out Tryd.underlying69 rfl size9 HY.out.1 ?_)
        |(refine wpList_storeI rfl 69 (.tmp 2) (.tmp 64) rfl _ 69 Z9 zs 9 rfl rfl HI.out.R size9 rfl HY.out.1 ?_))
       refine bodyPost_ret (v:=_) (hR _ _ _ 69 zs _ 9 rfl hRow.out Tryd.underlying69 rfl size9 HY.out.1) rfl ?_
       exact FIN.out
end Go.Proofs.YthoiikkjjaldnaaDoor
