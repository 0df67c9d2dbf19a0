/- Texts that the law rests on, laid together: FoldW. -/
import Derived.Test.YthoiikkjjaldnaaDoorZd3feda
import Derived.Test.YthoiikkjjaldnaaDoorZbe9dc0
set_option maxHeartbeats 4000000
namespace Go.Proofs.YthoiikkjjaldnaaDoor
set_option linter.unusedVariables false
set_option linter.unusedSimpArgs false
set_option maxRecDepth 100000
open Go.RowKit
def foB (r l:List Int):Bool:=all16 r&&all16 l
def foErr (r l:List Int):Int:=if r.length=l.length/\l.length<=80 then errOf (foB r l) else 1
def foT (r l:List Int) (n i:Nat):Int:=r.getD i 0*l.getD (n-i) 0
def foE (r l:List Int) (n:Nat):Int:=s16 ((2048+sumN (foT r l n) (n+1))/4096)
def foL (r l:List Int):List Int:=if foErr r l=0 then(List.range l.length).map (foE r l) else[]
theorem foErr_len {r l:List Int} (h: ¬(r.length=l.length/\l.length<=80)):foErr r l=1:=by unfold foErr;rw[if_neg h]
theorem foErr_all {r l:List Int} (h1:r.length=l.length) (h2:l.length<=80):foErr r l=errOf (foB r l):=by unfold foErr;rw[if_pos ⟨h1,h2⟩]
theorem foL_bad {r l:List Int} (h:foErr r l≠0):foL r l=[]:=by unfold foL;rw[if_neg h]
theorem foL_good {r l:List Int} (h:foErr r l=0):foL r l=(List.range l.length).map (foE r l):=by unfold foL;rw[if_pos h]
theorem synthFold_any (A A2:Option Addr) (c c2 n1 n2:Nat) (r l:List Int) (w:World) (hr:Rs w w.heap.size A r) (hl:Rs w w.heap.size A2 l) (lr:r.length=n1) (ll:l.length=n2) (wr':W64 r) (wl:W64 l):
 Calls Tryd.prog 52 #[.slice A n1 c,.slice A2 n2 c2] w (NewSE w (foL r l) (foErr r l)):=by
 by_cases hn1:n1=n2
 rotate_left
 ·have FIN:=hid (fun w' (hB:Below w.heap.size w w')=>show NewSE w (foL r l) (foErr r l) (.returned (.tuple #[.slice none 0 0,.int .i64 1])) w' from by rw[foL_bad (by rw[foErr_len (by omega)];decide),foErr_len (by omega)];exact NewSE.none_ hB)
  have d0:((n1:Int) !=n2)=true:=by simp;omega
  have d1: ¬(n1:Int)=n2:=by omega
  clear hn1 hr hl lr ll wr' wl
  go_enter Tryd.func52,Tryd.ntmps52
  go_wp2
  go_ret2
  exact FIN.out _ (Below.refl _ _)
 subst hn1
 by_cases hn2:80<n1
 ·have FIN:=hid (fun w' (hB:Below w.heap.size w w')=>show NewSE w (foL r l) (foErr r l) (.returned (.tuple #[.slice none 0 0,.int .i64 1])) w' from by rw[foL_bad (by rw[foErr_len (by omega)];decide),foErr_len (by omega)];exact NewSE.none_ hB)
  have d1:(80:Int)<n1:=by omega
  clear hn2 hr hl lr ll wr' wl
  go_enter Tryd.func52,Tryd.ntmps52
  go_wp2
  go_ret2
  exact FIN.out _ (Below.refl _ _)
 have hN:n1<=80:=by omega
 have hE:=foErr_all (r:=r) (l:=l) (by omega) (by omega)
 have FBAD:=hid (fun w' (hb:foB r l=false) (hB:Below w.heap.size w w')=>show NewSE w (foL r l) (foErr r l) (.returned (.tuple #[.slice none 0 0,.int .i64 2])) w' from by rw[foL_bad (by rw[hE,hb];decide),hE,hb];exact NewSE.none_ hB)
 have FGOOD:=hid (fun w' A3 c3 (hb:foB r l=true) (hO:Own w' w.heap.size A3 c3 ((List.range n1).map (foE r l))) (hB:Below w.heap.size w w')=>show NewSE w (foL r l) (foErr r l) (.returned (.tuple #[.slice A3 n1 c3,.int .i64 0])) w' from⟨A3,c3,by rw[foL_good (by rw[hE,hb];rfl),hE,hb,ll];simp;rfl,by rw[foL_good (by rw[hE,hb];rfl),ll];exact hO,hB⟩)
 have HR:=hid hr
 have HL:=hid hl
 have LR:=hid lr
 have LL:=hid ll
 have WR:=hid wr'
 have WL:=hid wl
 have d2: ¬(80:Int)<n1:=by omega
 clear hE hn2 hr hl lr ll wr' wl
 go_enter Tryd.func52,Tryd.ntmps52
 go_wp2
 go_loopw [6,22] (fun ov iv wr=> ∃(n:Nat) (Ao:Option Addr) (co:Nat),n<=n1/\iv= .int .i64 n/\ov= .slice Ao n co/\Hid (allTo ok16 r n/\allTo ok16 l n)/\Hid (Own wr w.heap.size Ao co ((List.range n).map (foE r l)))/\Hid (Below w.heap.size w wr)) (fun _ iv _=>n1-(intOf iv).toNat)
 case atStart=>exact⟨0,none,0,by omega,rfl,rfl,hid ⟨allTo.zero,allTo.zero⟩,hid Own.nil,hid (Below.refl _ _)⟩
 case round=>
  obtain⟨n,Ao,co,hn,rfl,rfl,HA,HO,HB⟩:=hrel
  obtain⟨wo,rfl⟩: ∃wo:World,wo=wr:=⟨_,rfl⟩
  by_cases hlt:n<n1
  ·go_wp2
   go_loopw [8,9] (fun av iv wr=> ∃(k:Nat) (s:Int),k<=n+1/\iv= .int .i64 k/\av= .int .i64 s/\Hid (s=2048+sumN (foT r l n) k)/\Hid (∀i,i<k->ok16 (r.getD i 0)=true/\ok16 (l.getD (n-i) 0)=true)/\(-1073741824*(k:Int)<=s-2048/\s-2048<=1073741824*(k:Int))/\Hid (Own wr w.heap.size Ao co ((List.range n).map (foE r l)))/\Hid (Below w.heap.size w wr)) (fun _ iv _=>n+1-(intOf iv).toNat)
   case atStart=>exact⟨0,2048,by omega,rfl,rfl,hid rfl,hid (fun i h=>by omega),by omega,HO,HB⟩
   case round=>
    clear HO HB
    obtain⟨k,s,hk,rfl,rfl,HS,HK,⟨sb1,sb2⟩,HO,HB⟩:=hrel
    by_cases hlk:k<n+1
    ·obtain⟨ad,rfl,hadb,c0⟩:=(HR.out.below HB.out).at_ (k:=k) (by rw[LR.out];omega)
     obtain⟨ae,rfl,haeb,c1⟩:=(HL.out.below HB.out).at_ (k:=n-k) (by rw[LL.out];omega)
     have x64:=WR.out.at_ k
     have y64:=WL.out.at_ (n-k)
     have ST:=hid (show 2048+sumN (foT r l n) (k+1)=s+r.getD k 0*l.getD (n-k) 0 by rw[HS.out];simp only[sumN];unfold foT;omega)
     have HK2:=hid (fun(h1:ok16 (r.getD k 0)=true) (h2:ok16 (l.getD (n-k) 0)=true)=>show∀i,i<k+1->ok16 (r.getD i 0)=true/\ok16 (l.getD (n-i) 0)=true from fun i hi=>by
      by_cases e:i=k
      ·subst e;exact⟨h1,h2⟩
      ·exact HK.out i (by omega))
     have BX:=hid (fun(h:ok16 (r.getD k 0)=false)=>show foB r l=false by unfold foB;rw[show all16 r=false from all_no (i:=k) (by rw[LR.out];omega) h];rfl)
     have BY:=hid (fun(h:ok16 (l.getD (n-k) 0)=false)=>show foB r l=false by unfold foB;rw[show all16 l=false from all_no (i:=n-k) (by rw[LL.out];omega) h];simp)
     generalize r.getD k 0=x at*
     generalize l.getD (n-k) 0=y at*
     obtain⟨m,hm⟩: ∃m,m=n-k:=⟨_,rfl⟩
     rw[<-hm] at c1
     have hw0:IntKind.i64.wrap ((n:Int)-(k:Nat))=(m:Nat):=by rw[IntKind.wrap_i64];omega
     have i1:(m:Int)<n1:=by omega
     have i2:(0:Int)<=m:=by omega
     have i3:(k:Int)<n1:=by omega
     have i4:(0:Int)<=k:=by omega
     have i5:(k:Int)<=n:=by omega
     have KX:Hid (∀W,Calls Tryd.prog 78 #[.int .i64 x] W fun e w'=>e= .returned (.int .i64 (s16 x))/\w'=W):=hid (fun W=>(synthsat_any x W).mono fun _ _ h=>⟨h.1,h.2.symm⟩)
     have KY:Hid (∀W,Calls Tryd.prog 78 #[.int .i64 y] W fun e w'=>e= .returned (.int .i64 (s16 y))/\w'=W):=hid (fun W=>(synthsat_any y W).mono fun _ _ h=>⟨h.1,h.2.symm⟩)
     have HM:=hid hm
     clear hm
     by_cases hx:x< -32768\/32767<x
     ·have e1:(x==s16 x)=false:=by rw[beq_eq_false_iff_ne];exact fun h=>s16_ne hx h.symm
      have e2:(x !=s16 x)=true:=by rw[bne_iff_ne];exact fun h=>s16_ne hx h.symm
      have FB:=hid (BX.out (ok16_no hx))
      clear hx x64 y64
      go_wp2
      go_quiet ((go_at_call 78;first|(with_reducible exact Calls.quiet_of_same (KX.out _))|(with_reducible exact Calls.quiet_of_same (KY.out _))))
      clear hw0
      go_wp2
      go_ret2
      exact FBAD.out _ FB.out (HB.out.trans ((below_drN _ _).mono HB.out.size))
     by_cases hy:y< -32768\/32767<y
     ·have e1:(y==s16 y)=false:=by rw[beq_eq_false_iff_ne];exact fun h=>s16_ne hy h.symm
      have e2:(y !=s16 y)=true:=by rw[bne_iff_ne];exact fun h=>s16_ne hy h.symm
      have FB:=hid (BY.out (ok16_no hy))
      have e3:=s16_id (x:=x) (by omega) (by omega)
      rw[e3] at KX
      clear hx hy x64 y64 e3
      go_wp2
      go_quiet ((go_at_call 78;first|(with_reducible exact Calls.quiet_of_same (KX.out _))|(with_reducible exact Calls.quiet_of_same (KY.out _))))
      clear hw0
      go_wp2
      go_ret2
      exact FBAD.out _ FB.out (HB.out.trans ((below_drN _ _).mono HB.out.size))
     have e3:=s16_id (x:=x) (by omega) (by omega)
     have e4:=s16_id (x:=y) (by omega) (by omega)
     rw[e3] at KX
     rw[e4] at KY
     have HK3:=hid (HK2.out (ok16_yes (by omega) (by omega)) (ok16_yes (by omega) (by omega)))
     obtain⟨p1,p2⟩:=prod16 (x:=x) (y:=y) (by omega) (by omega) (by omega) (by omega)
     have hw2:IntKind.i64.wrap (x*y)=x*y:=by rw[IntKind.wrap_i64];omega
     have hw3:IntKind.i64.wrap (s+x*y)=s+x*y:=by rw[IntKind.wrap_i64];omega
     have sb3: -1073741824*((k+1:Nat):Int)<=s+x*y-2048/\s+x*y-2048<=1073741824*((k+1:Nat):Int):=by push_cast;omega
     have SB3:=hid sb3
     clear hx hy x64 y64 e3 e4 sb3 sb1 sb2
     go_wp2
     go_quiet ((go_at_call 78;first|(with_reducible exact Calls.quiet_of_same (KX.out _))|(with_reducible exact Calls.quiet_of_same (KY.out _))))
     go_wp2
     go_quiet (fail)
     clear hw0 hw2 hw3
     go_wp2
     go_roundw
     case rel=>exact⟨k+1,_,by omega,by go_num,rfl,hid ST.out.symm,HK3,SB3.out,hid (HO.out.drewN _),hid (HB.out.trans ((below_drN _ _).mono HB.out.size))⟩
     case measure=>simp[intOf]<;>omega
    ·obtain rfl:k=n+1:=by omega
     have HN:=hid (show allTo ok16 r (n+1)/\allTo ok16 l (n+1) from⟨fun j hj=>(HK.out j hj).1,fun j hj=>by have:=(HK.out (n-j) (by omega)).2;rwa [show n-(n-j)=j by omega] at this⟩)
     have HV:=hid (show foE r l n=s16 (s/4096) by unfold foE;rw[HS.out])
     have KS:=hid (fun W=>synthsat_any (s/4096) W)
     obtain⟨v,hv⟩: ∃v,v=s16 (s/4096):=⟨_,rfl⟩
     rw[<-hv] at KS HV
     clear hv sb1 sb2 hlk
     go_wp2_with (first
      |(go_at_call 78;(with_reducible refine(KS.out _).mono ?_);rintro e w' ⟨rfl,rfl⟩)
      |(at_builtin;refine wpList_pushN rfl (.tmp 69) (.tmp 73) rfl w.heap.size Ao co n ((List.range n).map (foE r l)) rfl (by simp) (HO.out.alloc _) ⟨wr.heap.size,0,none⟩ v rfl (cell_new wr _ _) (by omega) (Nat.le_trans HB.out.size (by simp)) ?_;intro A5 c5 w5 hO hG hA;have O5:=hid hO;have G5:=hid hG;clear hO hG hA))
     have N1:=hid (show Own w5 w.heap.size A5 c5 ((List.range (n+1)).map (foE r l)) by rw[<-snoc_range,HV.out];exact O5.out)
     have N4:=hid (below_grown (HB.out.alloc HB.out.size _) (HO.out.alloc _) G5.out (Nat.le_trans HB.out.size (by simp)))
     go_wp2
     go_roundw
     case rel=>exact⟨n+1,A5,c5,by omega,by go_num,rfl,HN,N1,N4⟩
     case measure=>simp[intOf]<;>omega
  ·obtain rfl:n=n1:=by omega
   have FG:=hid (FGOOD.out wo Ao co (by unfold foB;rw[show all16 r=true from HA.out.1.all (by rw[LR.out];exact Nat.le_refl _),show all16 l=true from HA.out.2.all (by rw[LL.out];exact Nat.le_refl _)];rfl) HO.out HB.out)
   go_wp2
   go_ret2
   exact FG.out
end Go.Proofs.YthoiikkjjaldnaaDoor
