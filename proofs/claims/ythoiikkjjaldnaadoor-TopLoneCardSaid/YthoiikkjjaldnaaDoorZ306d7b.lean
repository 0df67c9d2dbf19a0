/- Texts that the law rests on, laid together: QuantA, PkG, PkV, UnV, ScoM. -/
import Derived.Test.YthoiikkjjaldnaaDoorZ4a2b05
import Derived.Test.YthoiikkjjaldnaaDoorZe4c9da
import Derived.Test.YthoiikkjjaldnaaDoorZcd86f7
import Derived.Test.YthoiikkjjaldnaaDoorZdf659f
import Derived.Test.YthoiikkjjaldnaaDoorZ5987a9
import Derived.Test.YthoiikkjjaldnaaDoorZd03041
import Derived.BigQuiet
import Derived.Deep.QuietTactic
import Derived.Test.YthoiikkjjaldnaaDoorZa172bc
import Derived.Test.YthoiikkjjaldnaaDoorZ4b4ffc
import Derived.Test.YthoiikkjjaldnaaDoorZ718584
import Derived.Test.YthoiikkjjaldnaaDoorZd3feda
set_option maxHeartbeats 4000000
namespace Go.Proofs.YthoiikkjjaldnaaDoor
set_option linter.unusedVariables false
set_option linter.unusedSimpArgs false
set_option maxRecDepth 100000
open Go.RowKit
def aE (EF:Int->Int->Int) (ks:List Int):Nat->Int
 |0=>0
 |n+1=>if aE EF ks n=0 then EF (n:Nat) (ks.getD n 0) else aE EF ks n
def aF (VF:Int->Int->Int) (ks:List Int) (j:Nat):Int:=VF (j:Nat) (ks.getD j 0)
def aL (VF EF:Int->Int->Int) (ks:List Int):List Int:=if aE EF ks 8=0 then(List.range 8).map (aF VF ks) else Z8
theorem aE_stop {EF:Int->Int->Int} {ks:List Int} {n:Nat} (h:aE EF ks n≠0): ∀m,n<=m->aE EF ks m=aE EF ks n:=by
 intro m hm
 induction m with
 |zero=>obtain rfl:n=0:=by omega
        rfl
 |succ m ih=>
  by_cases h2:n=m+1
  ·rw[h2]
  ·have:=ih (by omega)
   rw[aE,if_neg (by rw[this];exact h),this]
def AAns (VF EF:Int->Int->Int) (ks:List Int) (w:World) (e:Ending) (w':World):Prop:=
 e= .returned (.tuple #[.agg (agi (aL VF EF ks)),.int .i64 (aE EF ks 8)])/\Below w.heap.size w w'
structure Sq (w wr:World) (ks ys:List Int):Prop where
 A:IB wr w.heap.size 27 ks
 R:IB wr (w.heap.size+1) 27 Z8
 O:IB wr (w.heap.size+2) 27 ys
 B:Below w.heap.size w wr
theorem Sq.start (w:World) (ks:List Int):Sq w (((w.alloc (.cells (agi ks) 27)).alloc (.cells (agi Z8) 27)).alloc (.cells (agi Z8) 27)) ks Z8:=by
 have h1:=IB.new w 27 ks
 have h2:=IB.new (w.alloc (.cells (agi ks) 27)) 27 Z8
 have h3:=IB.new ((w.alloc (.cells (agi ks) 27)).alloc (.cells (agi Z8) 27)) 27 Z8
 simp only[World.size_alloc] at h2 h3
 exact⟨Blk.alloc (Blk.alloc h1 _) _,Blk.alloc h2 _,h3,((((Below.refl _ _).alloc (Nat.le_refl _) _).alloc (by simp) _).alloc (by simp;omega) _)⟩
theorem Sq.lt {w wr:World} {ks ys:List Int} (h:Sq w wr ks ys):w.heap.size+3<=wr.heap.size:=Blk.lt h.O
theorem Sq.below {w wr wr':World} {ks ys:List Int} (h:Sq w wr ks ys) (hb:Below wr.heap.size wr wr'):Sq w wr' ks ys:=
 ⟨Blk.below' h.A hb,Blk.below' h.R hb,Blk.below' h.O hb,h.B.trans (hb.mono (by have:=h.lt;omega))⟩
theorem Sq.set_ {w wr:World} {ks ys:List Int} (h:Sq w wr ks ys) (i:Nat) (x:Int):Sq w (wr.setCell ⟨w.heap.size+2,i,none⟩ (.int .i64 x)) ks (ys.set i x):=
 ⟨Blk.far h.A (p:=⟨w.heap.size+2,i,none⟩) (show w.heap.size≠w.heap.size+2 by omega) _,Blk.far h.R (p:=⟨w.heap.size+2,i,none⟩) (show w.heap.size+1≠w.heap.size+2 by omega) _,IB.set_ h.O i x,
   h.B.setCell (p:=⟨w.heap.size+2,i,none⟩) (show w.heap.size<=w.heap.size+2 by omega) _⟩
theorem upto_set {f:Nat->Int} {ys:List Int} {n:Nat} (hl:ys.length=8) (h: ∀j,j<n->ys.getD j 0=f j) (hn:n<8):(ys.set n (f n)).length=8/\∀j,j<n+1->(ys.set n (f n)).getD j 0=f j:=by
 refine⟨by simpa using hl,fun j hj=>?_⟩
 by_cases e:n=j
 ·subst e;exact get_set_same _ _ _ (by omega)
 ·rw[get_set_other _ _ e];exact h j (by omega)
theorem upto_all {f:Nat->Int} {ys:List Int} (hl:ys.length=8) (h: ∀j,j<8->ys.getD j 0=f j):ys=(List.range 8).map f:=
 list_ext (by simpa using hl) fun k hk=>by rw[hl] at hk;rw[h k hk,range_get f hk]
theorem quantAll_any (ks:List Int) (w:World) (hl:ks.length=8) (T:TabA w 1 widthL):
 Calls Tryd.prog 27 #[.agg (agi ks)] w (AAns qV qErr ks w):=by
 have hR:=results_row2 (fn:=Tryd.f27) (p:=2) (q:=3) (ty:=27) rfl
 have S0:=Sq.start w ks
 rw[z8_eq] at S0
 have S0:=hid S0
 have KC:=hid (fun i k w' (h:Below w.heap.size w w')=>quantOne_any i k w' (T.below' h (Nat.le_refl _)))
 have HIX:=hid (fun(k:Nat) (hk:k<8) (w:World)=>run_index_agi Tryd.underlying27 ks hl k hk w)
 have HL:=hid hl
 clear T hl
 go_enter Tryd.func27,Tryd.ntmps27
 go_wp2_with (refine wpList_loadI rfl 27 (.tmp 1) rfl _ 27 ks 8 _ rfl S0.out.A Tryd.underlying27 rfl size8 HL.out ?_)
 go_loopw [10] (fun iv wr=> ∃(n:Nat) (ys:List Int),n<=8/\iv= .int .i64 n/\Hid (aE qErr ks n=0)/\Hid (ys.length=8/\∀j,j<n->ys.getD j 0=aF qV ks j)/\Hid (Sq w wr ks ys)) (fun iv _=>8-(intOf iv).toNat)
 case atStart=>exact⟨0,Z8,by omega,rfl,hid rfl,hid ⟨rfl,fun j h=>by omega⟩,S0⟩
 case round=>
  clear S0
  obtain⟨n,ys,hn,rfl,HE,HY,HS⟩:=hrel
  by_cases hlt:n<8
  ·have K:=KC.out (n:Nat) (ks.getD n 0) wr HS.out.B
   unfold OneAns at K
   have hix:=HIX.out n hlt
   have ca:=IB.cell HS.out.A n (by rw[HL.out];exact hlt)
   have HV:=hid (show aF qV ks n=qV (n:Nat) (ks.getD n 0) from rfl)
   have HE1:=hid (show aE qErr ks (n+1)=qErr (n:Nat) (ks.getD n 0) by rw[aE,if_pos HE.out])
   generalize qV (n:Nat) (ks.getD n 0)=v at*
   generalize qErr (n:Nat) (ks.getD n 0)=er at*
   generalize ks.getD n 0=x at*
   have K':=hid K
   clear K
   by_cases h0:er=0
   ·subst h0
    go_wp2_with fail
    refine K'.out.mono ?_
    rintro e w1 ⟨rfl,rfl⟩
    have HS2:=HS
    have co:=IB.cell HS2.out.O n (by rw[HY.out.1];exact hlt)
    have fo:=Blk.frozen HS2.out.O n
    have HY2:=hid (upto_set HY.out.1 HY.out.2 hlt)
    rw[HV.out] at HY2
    have HS3:=hid (HS2.out.set_ n v)
    clear ca hix
    go_wp2
    go_roundw
    case rel=>exact⟨n+1,_,by omega,by go_num,HE1,HY2,HS3⟩
    case measure=>simp[intOf]<;>omega
   ·have e1:(er !=0)=true:=by simpa using h0
    have e2:(er==0)=false:=by simpa using h0
    have HF:=hid (show aE qErr ks 8=er by rw[<-HE1.out];exact aE_stop (by rw[HE1.out];exact h0) 8 (by omega))
    have HF2:=hid (show aL qV qErr ks=Z8 by unfold aL;rw[HF.out,if_neg h0])
    clear h0
    go_wp2_with fail
    refine K'.out.mono ?_
    rintro e w1 ⟨rfl,rfl⟩
    have HS2:=HS
    clear ca hix
    go_wp2_with (refine wpList_storeI rfl 27 (.tmp 2) (.tmp 22) rfl _ 27 Z8 Z8 8 rfl rfl HS2.out.R size8 rfl rfl ?_)
    refine bodyPost_ret (v:=_) (hR _ _ _ 27 Z8 _ 8 rfl (IB.setRow HS2.out.R Z8) Tryd.underlying27 rfl size8 rfl) rfl ?_
    exact⟨by rw[HF.out,HF2.out];rfl,below_setRow HS2.out.B (by omega) _⟩
  ·obtain rfl:n=8:=by omega
   have HF2:=hid (show aL qV qErr ks=ys by unfold aL;rw[if_pos HE.out];exact(upto_all HY.out.1 HY.out.2).symm)
   have HYL:=hid HY.out.1
   go_wp2_with (first
    |(refine wpList_loadI rfl 27 (.tmp 4) rfl _ 27 ys 8 _ rfl HS.out.O Tryd.underlying27 rfl size8 HYL.out ?_)
    |(refine wpList_storeI rfl 27 (.tmp 2) (.tmp 28) rfl _ 27 Z8 ys 8 rfl rfl HS.out.R size8 rfl HYL.out ?_))
   refine bodyPost_ret (v:=_) (hR _ _ _ 27 ys _ 8 rfl (IB.setRow HS.out.R ys) Tryd.underlying27 rfl size8 HYL.out) rfl ?_
   exact⟨by rw[HE.out,HF2.out];rfl,below_setRow HS.out.B (by omega) _⟩
theorem quantValues_any (ks:List Int) (w:World) (hl:ks.length=8) (T:TabA w 1 widthL):
 Calls Tryd.prog 29 #[.agg (agi ks)] w (AAns lvV lvErr ks w):=by
 have hR:=results_row2 (fn:=Tryd.f29) (p:=2) (q:=3) (ty:=27) rfl
 have S0:=Sq.start w ks
 rw[z8_eq] at S0
 have S0:=hid S0
 have KC:=hid (fun i k w' (h:Below w.heap.size w w')=>quantLevel_any i k w' (T.below' h (Nat.le_refl _)))
 have HIX:=hid (fun(k:Nat) (hk:k<8) (w:World)=>run_index_agi Tryd.underlying27 ks hl k hk w)
 have HL:=hid hl
 clear T hl
 go_enter Tryd.func29,Tryd.ntmps29
 go_wp2_with (refine wpList_loadI rfl 27 (.tmp 1) rfl _ 27 ks 8 _ rfl S0.out.A Tryd.underlying27 rfl size8 HL.out ?_)
 go_loopw [10] (fun iv wr=> ∃(n:Nat) (ys:List Int),n<=8/\iv= .int .i64 n/\Hid (aE lvErr ks n=0)/\Hid (ys.length=8/\∀j,j<n->ys.getD j 0=aF lvV ks j)/\Hid (Sq w wr ks ys)) (fun iv _=>8-(intOf iv).toNat)
 case atStart=>exact⟨0,Z8,by omega,rfl,hid rfl,hid ⟨rfl,fun j h=>by omega⟩,S0⟩
 case round=>
  clear S0
  obtain⟨n,ys,hn,rfl,HE,HY,HS⟩:=hrel
  by_cases hlt:n<8
  ·have K:=KC.out (n:Nat) (ks.getD n 0) wr HS.out.B
   unfold LvAns at K
   have hix:=HIX.out n hlt
   have ca:=IB.cell HS.out.A n (by rw[HL.out];exact hlt)
   have HV:=hid (show aF lvV ks n=lvV (n:Nat) (ks.getD n 0) from rfl)
   have HE1:=hid (show aE lvErr ks (n+1)=lvErr (n:Nat) (ks.getD n 0) by rw[aE,if_pos HE.out])
   generalize lvV (n:Nat) (ks.getD n 0)=v at*
   generalize lvErr (n:Nat) (ks.getD n 0)=er at*
   generalize ks.getD n 0=x at*
   have K':=hid K
   clear K
   by_cases h0:er=0
   ·subst h0
    go_wp2_with fail
    refine K'.out.mono ?_
    rintro e w1 ⟨rfl,rfl⟩
    have HS2:=HS
    have co:=IB.cell HS2.out.O n (by rw[HY.out.1];exact hlt)
    have fo:=Blk.frozen HS2.out.O n
    have HY2:=hid (upto_set HY.out.1 HY.out.2 hlt)
    rw[HV.out] at HY2
    have HS3:=hid (HS2.out.set_ n v)
    clear ca hix
    go_wp2
    go_roundw
    case rel=>exact⟨n+1,_,by omega,by go_num,HE1,HY2,HS3⟩
    case measure=>simp[intOf]<;>omega
   ·have e1:(er !=0)=true:=by simpa using h0
    have e2:(er==0)=false:=by simpa using h0
    have HF:=hid (show aE lvErr ks 8=er by rw[<-HE1.out];exact aE_stop (by rw[HE1.out];exact h0) 8 (by omega))
    have HF2:=hid (show aL lvV lvErr ks=Z8 by unfold aL;rw[HF.out,if_neg h0])
    clear h0
    go_wp2_with fail
    refine K'.out.mono ?_
    rintro e w1 ⟨rfl,rfl⟩
    have HS2:=HS
    clear ca hix
    go_wp2_with (refine wpList_storeI rfl 27 (.tmp 2) (.tmp 22) rfl _ 27 Z8 Z8 8 rfl rfl HS2.out.R size8 rfl rfl ?_)
    refine bodyPost_ret (v:=_) (hR _ _ _ 27 Z8 _ 8 rfl (IB.setRow HS2.out.R Z8) Tryd.underlying27 rfl size8 rfl) rfl ?_
    exact⟨by rw[HF.out,HF2.out];rfl,below_setRow HS2.out.B (by omega) _⟩
  ·obtain rfl:n=8:=by omega
   have HF2:=hid (show aL lvV lvErr ks=ys by unfold aL;rw[if_pos HE.out];exact(upto_all HY.out.1 HY.out.2).symm)
   have HYL:=hid HY.out.1
   go_wp2_with (first
    |(refine wpList_loadI rfl 27 (.tmp 4) rfl _ 27 ys 8 _ rfl HS.out.O Tryd.underlying27 rfl size8 HYL.out ?_)
    |(refine wpList_storeI rfl 27 (.tmp 2) (.tmp 28) rfl _ 27 Z8 ys 8 rfl rfl HS.out.R size8 rfl HYL.out ?_))
   refine bodyPost_ret (v:=_) (hR _ _ _ 27 ys _ 8 rfl (IB.setRow HS.out.R ys) Tryd.underlying27 rfl size8 HYL.out) rfl ?_
   exact⟨by rw[HE.out,HF2.out];rfl,below_setRow HS.out.B (by omega) _⟩
end Go.Proofs.YthoiikkjjaldnaaDoor
namespace Go.Proofs.YthoiikkjjaldnaaDoor
set_option linter.unusedVariables false
set_option linter.unusedSimpArgs false
set_option maxRecDepth 100000
open Go.RowKit
def pkOk (ps:List Int) (i:Nat):Prop:=0<=ps.getD i 0/\ps.getD i 0<=pkT.getD i 0
instance (ps:List Int) (i:Nat):Decidable (pkOk ps i):=by unfold pkOk;infer_instance
def pkTo (ps:List Int) (n:Nat):Bool:=(List.range n).all (fun i=>decide (pkOk ps i))
theorem pkTo_zero (ps:List Int):pkTo ps 0=true:=rfl
theorem pkTo_succ {ps:List Int} {n:Nat} (h:pkTo ps n=true) (h2:pkOk ps n):pkTo ps (n+1)=true:=by
 unfold pkTo at*
 rw[List.range_succ,List.all_append,h]
 simp[h2]
theorem pkTo_not {ps:List Int} {n m:Nat} (hn:n<m) (h2: ¬pkOk ps n):pkTo ps m=false:=by
 unfold pkTo
 rw[List.all_eq_false]
 exact⟨n,by simpa using hn,by simpa using h2⟩
theorem pkTo_at {ps:List Int} {n i:Nat} (h:pkTo ps n=true) (hi:i<n):pkOk ps i:=by
 unfold pkTo at h
 rw[List.all_eq_true] at h
 simpa using h i (by simpa using hi)
theorem packGood_any (ps:List Int) (w:World) (T:TabA w 1 widthL) (hl:ps.length=25):
 Calls Tryd.prog 66 #[.agg (agi ps)] w fun e w'=>e= .returned (.bool (pkTo ps 25))/\Below w.heap.size w w':=by
 have P0:=hid (IB.new w 77 ps)
 have B0:=hid ((Below.refl w.heap.size w).alloc (Nat.le_refl _) (.cells (agi ps) 77))
 have T0:=hid (T.below B0.out)
 have HL:=hid hl
 clear T hl
 obtain⟨V,hV⟩: ∃V,V=w.alloc (.cells (agi ps) 77):=⟨_,rfl⟩
 have SV:=hid (show V.heap.size=w.heap.size+1 by rw[hV];simp)
 rw[<-hV] at P0 B0 T0
 have HV:=hid hV
 clear hV
 go_enter Tryd.func66,Tryd.ntmps66
 go_wp2_with (first
  |(rw[<-HV.out];clear HV)
  |(go_at_call 68;(with_reducible refine(fields_any w.heap.size V T0.out).mono ?_);rintro e w1 ⟨A,c,rfl,hO,hB⟩;obtain⟨b,rfl,hb1,hb2,hb3⟩:=OwnF.at_ hO (by omega);have HB1:=hid hb1;have HB2:=hid hb2;have HC:=hid hb3;have P1:=hid (Blk.below' P0.out hB);have B1:=hid (B0.out.trans (hB.mono B0.out.size));clear hO hB hb1 hb2 hb3))
 go_loopw [7] (fun iv wr=> ∃i:Nat,i<=25/\iv= .int .i64 i/\Hid (pkTo ps i=true)/\Hid (Below w1.heap.size w1 wr)) (fun iv _=>25-(intOf iv).toNat)
 case atStart=>exact⟨0,by omega,rfl,hid (pkTo_zero ps),hid (Below.refl _ _)⟩
 case round=>
  obtain⟨i,hi,rfl,HP,HB⟩:=hrel
  by_cases hlt:i<25
  ·obtain⟨f0,f1,f2⟩:=HC.out i hlt
   have hs1:=HB.out.size
   have hb1:=HB1.out
   have c0:wr.cell? ⟨b,i*3,none⟩=some (.pointer (some ⟨w.heap.size,i,none⟩)):=by rw[Nat.mul_comm];exact(HB.out.cell (p:=⟨b,3*i,none⟩) hb1).trans f0
   have c1:wr.cell? ⟨b,i*3+1,none⟩=some (.int .i64 (pkB.getD i 0)):=by rw[Nat.mul_comm];exact(HB.out.cell (p:=⟨b,3*i+1,none⟩) hb1).trans f1
   have c2:wr.cell? ⟨b,i*3+2,none⟩=some (.int .i64 (pkT.getD i 0)):=by rw[Nat.mul_comm];exact(HB.out.cell (p:=⟨b,3*i+2,none⟩) hb1).trans f2
   have p0:wr.cell? ⟨w.heap.size,i,none⟩=some (.int .i64 (ps.getD i 0)):=IB.cell (Blk.below' P1.out HB.out) i (by rw[HL.out];exact hlt)
   have hpl:w.heap.size<wr.heap.size:=Blk.lt (Blk.below' P1.out HB.out)
   have HN:=hid (fun h=>pkTo_not (ps:=ps) hlt h)
   have HY:=hid (fun h=>pkTo_succ HP.out h)
   have HD:=hid (show pkOk ps i↔0<=ps.getD i 0/\ps.getD i 0<=pkT.getD i 0 from Iff.rfl)
   generalize ps.getD i 0=x at*
   generalize pkT.getD i 0=t at*
   generalize pkB.getD i 0=bb at*
   have i0:(0:Int)<=i:=by omega
   have i25:(i:Int)<25:=by omega
   obtain⟨W,hW⟩: ∃W,W=wr.alloc (.cells #[.pointer (some ⟨w.heap.size,i,none⟩),.int .i64 bb,.int .i64 t] 135):=⟨_,rfl⟩
   have q0:W.cell? ⟨wr.heap.size,0,none⟩=some (.pointer (some ⟨w.heap.size,i,none⟩)):=by rw[hW];exact Blk.cell (Blk.new wr _ _) 0
   have q2:W.cell? ⟨wr.heap.size,2,none⟩=some (.int .i64 t):=by rw[hW];exact Blk.cell (Blk.new wr _ _) 2
   have qx:W.cell? ⟨w.heap.size,i,none⟩=some (.int .i64 x):=by rw[hW];exact(((Below.refl wr.heap.size wr).alloc (Nat.le_refl _) _).cell (p:=⟨w.heap.size,i,none⟩) hpl).trans p0
   have BW:=hid (show Below w1.heap.size w1 W by rw[hW];exact HB.out.alloc hs1 _)
   clear f0 f1 f2
   go_wp2
   rw[<-hW]
   clear hW c0 c1 c2 p0
   by_cases hx:x<0
   ·have d0:decide (x<0)=true:=by simpa using hx
    go_quiet (fail)
    go_wp2
    go_ret
    exact⟨by rw[HN.out (fun h=>by have:=HD.out.1 h;omega)];rfl,B1.out.trans ((BW.out.trans ((below_drN W _).mono BW.out.size)).mono B1.out.size)⟩
   ·have d0:decide (x<0)=false:=by simpa using hx
    by_cases ht:t<x
    ·have d1:decide (t<x)=true:=by simpa using ht
     go_quiet (fail)
     go_wp2
     go_ret
     exact⟨by rw[HN.out (fun h=>by have:=HD.out.1 h;omega)];rfl,B1.out.trans ((BW.out.trans ((below_drN W _).mono BW.out.size)).mono B1.out.size)⟩
    ·have d1:decide (t<x)=false:=by simpa using ht
     go_quiet (fail)
     go_wp2
     go_roundw
     case rel=>exact⟨i+1,by omega,by go_num,hid (HY.out (HD.out.2 (by omega))),hid (BW.out.trans ((below_drN W _).mono BW.out.size))⟩
     case measure=>simp[intOf]<;>omega
  ·obtain rfl:i=25:=by omega
   go_wp2
   go_ret
   exact⟨by rw[HP.out];rfl,B1.out.trans (HB.out.mono B1.out.size)⟩
end Go.Proofs.YthoiikkjjaldnaaDoor
namespace Go.Proofs.YthoiikkjjaldnaaDoor
set_option linter.unusedVariables false
set_option linter.unusedSimpArgs false
set_option maxRecDepth 100000
open Go.RowKit
def pkN (i:Nat):Nat:=(pkB.getD i 0).toNat
def pkA:Nat->Nat
 |0=>0
 |n+1=>pkA n+pkN n
def pkX (ps:List Int):Nat->Nat
 |0=>0
 |n+1=>pkX ps n*2^pkN n+(ps.getD n 0).toNat
def pkV (ps:List Int):Nat->Nat
 |0=>0
 |n+1=>pkV ps n|||(ps.getD n 0).toNat<<<(112-pkA n-pkN n)
theorem pkA_end:pkA 25=106:=by decide
theorem pkA_le {n:Nat} (h:n<=25):pkA n<=106:=by
 have: ∀m,m<=25->pkA m<=106:=by decide
 exact this n h
theorem pkN_le {n:Nat} (h:n<25):pkN n<=6/\pkB.getD n 0=(pkN n:Nat)/\pkT.getD n 0<2^pkN n:=by
 have: ∀m,m<25->pkN m<=6/\pkB.getD m 0=(pkN m:Nat)/\pkT.getD m 0<2^pkN m:=by decide
 exact this n h
theorem pk_lt {ps:List Int} (h:pkTo ps 25=true) {n:Nat} (hn:n<25):(ps.getD n 0).toNat<2^pkN n/\ps.getD n 0=((ps.getD n 0).toNat:Nat):=by
 have h1:=pkTo_at h hn
 have h2:=(pkN_le hn).2.2
 unfold pkOk at h1
 generalize ps.getD n 0=x at*
 generalize pkT.getD n 0=t at*
 have e:((2^pkN n:Nat):Int)=2^pkN n:=by simp
 rw[<-e] at h2
 omega
theorem shl_or (a b n:Nat):(a|||b)<<<n=a<<<n|||b<<<n:=by
 apply Nat.eq_of_testBit_eq
 intro i
 simp only[Nat.testBit_or,Nat.testBit_shiftLeft]
 cases decide (i>=n)<;>simp
theorem pkV_eq {ps:List Int} (h:pkTo ps 25=true): ∀n,n<=25->pkV ps n=pkX ps n<<<(112-pkA n)
 |0,_=>by simp[pkV,pkX]
 |n+1,hn=>by
  have ih:=pkV_eq h n (by omega)
  have hp:=(pk_lt h (n:=n) (by omega)).1
  have ha:=pkA_le (n:=n+1) hn
  simp only[pkA] at ha
  simp only[pkV,pkX,pkA]
  rw[ih,<-Nat.shiftLeft_eq,Nat.shiftLeft_add_eq_or_of_lt hp,shl_or,<-Nat.shiftLeft_add,show pkN n+(112-(pkA n+pkN n))=112-pkA n by omega,show 112-pkA n-pkN n=112-(pkA n+pkN n) by omega]
theorem pkX_lt {ps:List Int} (h:pkTo ps 25=true): ∀n,n<=25->pkX ps n<2^pkA n
 |0,_=>by simp[pkX,pkA]
 |n+1,hn=>by
  have ih:=pkX_lt h n (by omega)
  have hp:=(pk_lt h (n:=n) (by omega)).1
  simp only[pkX,pkA]
  rw[Nat.pow_add]
  have h1:(pkX ps n+1)*2^pkN n<=2^pkA n*2^pkN n:=Nat.mul_le_mul_right _ ih
  rw[Nat.add_mul,Nat.one_mul] at h1
  omega
def pkQ (ps:List Int):Nat:=(parB (ps.getD 0 0)+parB (ps.getD 9 0)+parB (ps.getD 17 0))%2
theorem pkQ_eq (ps:List Int):pkPar ps=(pkQ ps:Nat):=rfl
def pkW (ps:List Int):Nat:=pkV ps 25|||pkQ ps<<<5
theorem pkW_eq {ps:List Int} (h:pkTo ps 25=true):pkW ps=(pkX ps 25*2+pkQ ps)*2^5:=by
 have hq:pkQ ps<2^1:=Nat.mod_lt _ (by decide)
 have e:pkX ps 25*2+pkQ ps=pkX ps 25<<<1|||pkQ ps:=by rw[<-Nat.shiftLeft_add_eq_or_of_lt hq,Nat.shiftLeft_eq]
 unfold pkW
 rw[pkV_eq h 25 (by omega),pkA_end,e,<-Nat.shiftLeft_eq,shl_or,<-Nat.shiftLeft_add]
theorem pkW_lt {ps:List Int} (h:pkTo ps 25=true):pkW ps<2^112:=by
 have h1:=pkX_lt h 25 (by omega)
 rw[pkA_end] at h1
 have hq:pkQ ps<2:=Nat.mod_lt _ (by decide)
 rw[pkW_eq h]
 omega
theorem digL_byts (V:Nat):Byts (digL V):=fun i=>by
 rw[List.getD_eq_getElem?_getD]
 by_cases h:i<14
 ·rw[digL_get V h]
  have:=digE_lt V (8*(13-i))
  simp only[Option.getD_some]
  omega
 ·rw[List.getElem?_eq_none (by rw[digL_len];omega)]
  simp
def pkBytes (ps:List Int):List Int:=if pkTo ps 25=true then digL (pkW ps)++[chk (digL (pkW ps))] else[]
def pkErr (ps:List Int):Int:=if pkTo ps 25=true then 0 else 2
end Go.Proofs.YthoiikkjjaldnaaDoor
namespace Go.Proofs.YthoiikkjjaldnaaDoor
set_option linter.unusedVariables false
set_option linter.unusedSimpArgs false
set_option maxRecDepth 100000
open Go.RowKit
def nb (xs:List Int):Nat->Nat
 |0=>0
 |k+1=>nb xs k*256+(xs.getD k 0).toNat
theorem nb_div {xs:List Int} (hx:Byts xs) (k d:Nat):nb xs (k+d)/2^(8*d)=nb xs k:=by
 induction d with
 |zero=>simp
 |succ d ih=>
  have h:=hx (k+d)
  rw[show 8*(d+1)=8+8*d by omega,Nat.pow_add,<-Nat.div_div_eq_div_mul,show k+(d+1)=(k+d)+1 by omega]
  simp only[nb]
  rw[show(nb xs (k+d)*256+(xs.getD (k+d) 0).toNat)/2^8=nb xs (k+d) by
   have h3:(2:Nat)^8=256:=rfl
   rw[h3]
   omega,ih]
theorem nb_dig {xs:List Int} (hx:Byts xs) {j:Nat} (hj:j<14):digE (nb xs 14) (8*(13-j))=(xs.getD j 0).toNat:=by
 have h:=nb_div hx (j+1) (13-j)
 rw[show j+1+(13-j)=14 by omega] at h
 unfold digE
 rw[h]
 have h2:=hx j
 simp only[nb]
 omega
def gt (V a n:Nat):Nat:=V>>>(112-a-n)%2^n
theorem gt_lt (V a n:Nat):gt V a n<2^n:=Nat.mod_lt _ (Nat.two_pow_pos n)
theorem gt_bit {V e q:Nat} (hq:q<8):digE V e/2^q%2=V>>>(e+q)%2:=by
 apply Nat.eq_of_testBit_eq
 intro i
 rw[show(2:Nat)=2^1 from rfl,Nat.testBit_mod_two_pow,Nat.testBit_mod_two_pow,Nat.testBit_div_two_pow,digE_bit,Nat.testBit_shiftRight]
 by_cases h:i<1
 ·have e1:i=0:=by omega
  subst e1
  simp[hq]
 ·simp[h]
theorem gt_step (y m:Nat):(y/2%2^m)*2+y%2=y%2^(m+1):=by
 rw[Nat.pow_succ,Nat.mul_comm (2^m) 2,Nat.mod_mul]
 omega
def uF (V i:Nat):Nat:=gt V (pkA i) (pkN i)
def uL (V n:Nat):List Int:=(List.range 25).map (fun i=>if i<n then(uF V i:Int) else 0)
theorem uL_len (V n:Nat):(uL V n).length=25:=by simp[uL]
theorem uL_zero (V:Nat):uL V 0=List.replicate 25 0:=by
 refine List.ext_getElem? fun j=>?_
 by_cases hj:j<25
 ·rw[List.getElem?_replicate,if_pos hj]
  unfold uL
  simp[hj]
 ·rw[List.getElem?_eq_none (by rw[uL_len];omega),List.getElem?_eq_none (by rw[List.length_replicate];omega)]
theorem uL_set (V:Nat) {i:Nat} (hi:i<25):(uL V i).set i (uF V i:Nat)=uL V (i+1):=by
 refine List.ext_getElem? fun j=>?_
 by_cases hj:j<25
 ·rw[List.getElem?_set,uL_len]
  unfold uL
  simp only[List.getElem?_map,List.getElem?_range hj,Option.map_some]
  by_cases e:i=j
  ·subst e
   rw[if_pos rfl,if_pos hi,if_pos (by omega)]
  ·rw[if_neg e]
   congr 1
   by_cases h:j<i
   ·rw[if_pos h,if_pos (by omega)]
   ·rw[if_neg h,if_neg (by omega)]
 ·rw[List.getElem?_eq_none (by rw[List.length_set,uL_len];omega),List.getElem?_eq_none (by rw[uL_len];omega)]
theorem uL_64 (V n:Nat):W64 (uL V n):=by
 intro x hx
 unfold uL at hx
 obtain⟨i,hi,rfl⟩:=List.mem_map.1 hx
 have hi25:i<25:=by simpa using hi
 have h1:=gt_lt V (pkA i) (pkN i)
 have h2:=(pkN_le hi25).1
 have h3:2^pkN i<=2^6:=Nat.pow_le_pow_right (by decide) h2
 unfold uF
 split<;>omega
def unV (xs:List Int):Nat:=nb xs 14
def unE (xs:List Int):Int:=
 if xs.length≠15 then 1 else if chk (xs.take 14)≠xs.getD 14 0 then 5 else if unV xs%32≠0 then 3 else if pkTo (uL (unV xs) 25) 25=false then 2 else if pkPar (uL (unV xs) 25)≠(unV xs/32%2:Nat) then 3 else 0
def unL (xs:List Int):List Int:=if unE xs=0 then uL (unV xs) 25 else List.replicate 25 0
theorem unL_len (xs:List Int):(unL xs).length=25:=by
 unfold unL
 split
 ·exact uL_len _ _
 ·rfl
theorem gt_par (V:Nat):gt V 106 1=V/32%2:=by
 unfold gt
 rw[Nat.shiftRight_eq_div_pow]
end Go.Proofs.YthoiikkjjaldnaaDoor
namespace Go.Proofs.YthoiikkjjaldnaaDoor
set_option linter.unusedVariables false
set_option linter.unusedSimpArgs false
set_option maxRecDepth 100000
open Go.RowKit
def sgp (x:Int):Int:=if x<0 then-1 else 1
theorem sgp_two (x:Int):sgp x=1\/sgp x= -1:=by
 unfold sgp
 split
 ·exact .inr rfl
 ·exact .inl rfl
def plc (ix:List Int) (t:Nat):Nat:=t+4*(ix.getD t 0).toNat
def en0 (ring:List Int) (a b:Nat):Int:=sumN (enT ring a b) 40
def sg (d ix:List Int) (t:Nat):Int:=sgp (d.getD (plc ix t) 0)
theorem en0_dot (ring:List Int) (a b:Nat):dotL (lateL ring a) (lateL ring b) 40=en0 ring a b:=enT_sum ring a b
theorem en0_comm (ring:List Int) (a b:Nat):en0 ring a b=en0 ring b a:=by
 unfold en0
 exact sumN_congr 40 fun i _=>by unfold enT;exact Int.mul_comm _ _
theorem en0_range (ring:List Int) (a b:Nat): -42949672960<=en0 ring a b/\en0 ring a b<=42949672960:=by
 have:=enT_range ring a b 40
 unfold en0
 omega
def scT (d ring ix:List Int) (i j:Nat):Int:=sg d ix i*sg d ix j*en0 ring (plc ix i) (plc ix j)
theorem sg_mul {s x B:Int} (hs:s=1\/s= -1) (h: -B<=x/\x<=B): -B<=s*x/\s*x<=B:=by
 rcases hs with rfl|rfl
 ·rw[Int.one_mul];exact h
 ·rw[Int.neg_one_mul];omega
theorem sg_two (d ix:List Int) (t:Nat):sg d ix t=1\/sg d ix t= -1:=sgp_two _
theorem scT_range (d ring ix:List Int) (i j:Nat): -42949672960<=scT d ring ix i j/\scT d ring ix i j<=42949672960:=by
 unfold scT
 rw[Int.mul_assoc]
 exact sg_mul (sg_two d ix i) (sg_mul (sg_two d ix j) (en0_range ring _ _))
def scR (d ring ix:List Int) (i:Nat):Int:=sumN (scT d ring ix i) 4
def scE (d ring ix:List Int):Int:=sumN (scR d ring ix) 4
theorem sum_bound {f:Nat->Int} {B:Int} (h: ∀i,-B<=f i/\f i<=B) (n:Nat): -(B*n)<=sumN f n/\sumN f n<=B*n:=by
 induction n with
 |zero=>simp[sumN]
 |succ n ih=>
  simp only[sumN]
  have:=h n
  have e:B*((n+1:Nat):Int)=B*n+B:=by push_cast;rw[Int.mul_add,Int.mul_one]
  rw[e]
  omega
theorem scR_part (d ring ix:List Int) (i j:Nat) (hj:j<=4): -171798691840<=sumN (scT d ring ix i) j/\sumN (scT d ring ix i) j<=171798691840:=by
 have:=sum_bound (scT_range d ring ix i) j
 omega
theorem scR_range (d ring ix:List Int) (i:Nat): -171798691840<=scR d ring ix i/\scR d ring ix i<=171798691840:=scR_part d ring ix i 4 (Nat.le_refl _)
theorem scE_part (d ring ix:List Int) (i:Nat) (hi:i<=4): -687194767360<=sumN (scR d ring ix) i/\sumN (scR d ring ix) i<=687194767360:=by
 have:=sum_bound (scR_range d ring ix) i
 omega
theorem scE_range (d ring ix:List Int): -687194767360<=scE d ring ix/\scE d ring ix<=687194767360:=scE_part d ring ix 4 (Nat.le_refl _)
def scC (d ix:List Int):Nat->Int
 |0=>0
 |t+1=>IntKind.i64.wrap (scC d ix t+IntKind.i64.wrap (sg d ix t*d.getD (plc ix t) 0))
theorem wrap64_range (x:Int): -9223372036854775808<=IntKind.i64.wrap x/\IntKind.i64.wrap x<=9223372036854775807:=by
 rw[IntKind.wrap_i64]
 omega
theorem scC_64 (d ix:List Int) (t:Nat): -9223372036854775808<=scC d ix t/\scC d ix t<=9223372036854775807:=by
 cases t with
 |zero=>simp[scC]
 |succ t=>exact wrap64_range _
structure Tbl (L ring:List Int) (a b:Nat):Prop where
 len:L.length=1600
 at_: ∀i j,i<40->j<40->(i<a/\j<a\/i=a/\j<b\/j=a/\i<b)->L.getD (i*40+j) 0=en0 ring i j
theorem Tbl.start (ring:List Int):Tbl (List.replicate 1600 0) ring 0 0:=⟨by rw[List.length_replicate],fun i j _ _ h=>by omega⟩
theorem Tbl.set_ {L ring:List Int} {a b:Nat} (h:Tbl L ring a b) (ha:a<40) (hb:b<=a):Tbl ((L.set (a*40+b) (en0 ring a b)).set (b*40+a) (en0 ring a b)) ring a (b+1):=by
 refine⟨by rw[List.length_set,List.length_set,h.len],fun i j hi hj hc=>?_⟩
 by_cases e1:b*40+a=i*40+j
 ·have:i=b/\j=a:=by omega
  obtain⟨rfl,rfl⟩:=this
  rw[get_set_same _ _ _ (by rw[List.length_set,h.len];omega)]
  exact en0_comm _ _ _
 ·rw[get_set_other _ _ e1]
  by_cases e2:a*40+b=i*40+j
  ·have:i=a/\j=b:=by omega
   obtain⟨rfl,rfl⟩:=this
   rw[get_set_same _ _ _ (by rw[h.len];omega)]
  ·rw[get_set_other _ _ e2]
   refine h.at_ i j hi hj ?_
   have e3: ¬(i=b/\j=a):=by omega
   have e4: ¬(i=a/\j=b):=by omega
   omega
theorem Tbl.next {L ring:List Int} {a:Nat} (h:Tbl L ring a (a+1)):Tbl L ring (a+1) 0:=⟨h.len,fun i j hi hj hc=>h.at_ i j hi hj (by omega)⟩
theorem Tbl.get {L ring:List Int} (h:Tbl L ring 40 0) {i j:Nat} (hi:i<40) (hj:j<40):L.getD (i*40+j) 0=en0 ring i j:=h.at_ i j hi hj (by omega)
def okIx (ix:List Int):Bool:=ix.all fun p=>decide (0<=p/\p<=9)
theorem okIx_at {ix:List Int} (h:okIx ix=true) (t:Nat):0<=ix.getD t 0/\ix.getD t 0<=9:=by
 by_cases ht:t<ix.length
 ·have:=all_at h t ht
  simpa using this
 ·rw[List.getD_eq_getElem?_getD,List.getElem?_eq_none (by omega)];simp
theorem plc_lt {ix:List Int} (h:okIx ix=true) {t:Nat} (ht:t<4):plc ix t<40:=by
 have:=okIx_at h t
 unfold plc
 omega
def Ix (x:List Int):Prop:=x.length=4/\okIx x=true
def scErr (d ring ix:List Int):Int:=if d.length=40/\ring.length=40 then(if okIx ix then 0 else 2) else 1
def scCv (d ring ix:List Int):Int:=if scErr d ring ix=0 then scC d ix 4 else 0
def scEv (d ring ix:List Int):Int:=if scErr d ring ix=0 then scE d ring ix else 0
end Go.Proofs.YthoiikkjjaldnaaDoor
