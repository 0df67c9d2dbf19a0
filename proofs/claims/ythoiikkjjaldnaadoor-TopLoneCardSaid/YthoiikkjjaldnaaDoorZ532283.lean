/- Texts that the law rests on, laid together: GoodW. -/
import Derived.Test.YthoiikkjjaldnaaDoorZe4c9da
import Derived.Test.YthoiikkjjaldnaaDoorZbe9dc0
import Derived.Test.YthoiikkjjaldnaaDoorZ7e0d48
set_option maxHeartbeats 4000000
namespace Go.Proofs.YthoiikkjjaldnaaDoor
set_option linter.unusedVariables false
set_option linter.unusedSimpArgs false
set_option maxRecDepth 100000
open Go.RowKit
def okK (x:Int):Bool:=decide (-31000<=x/\x<=31000)
theorem okK_yes {x:Int} (h1: -31000<=x) (h2:x<=31000):okK x=true:=by unfold okK;simp;omega
theorem okK_no {x:Int} (h:x< -31000\/31000<x):okK x=false:=by unfold okK;simp;omega
def tailM (m:Mm):Prop:=(20<=m.la/\m.la<=79)/\(0<=m.se/\m.se<65536)/\(0<=m.ga/\m.ga<=32767)/\(0<=m.pi/\m.pi<=18022)/\0<=m.er/\m.er<=6
instance (m:Mm):Decidable (tailM m):=by unfold tailM;infer_instance
def goodM (m:Mm):Bool:=m.r.all okK&&(all16 m.p&&(all16 m.e&&decide (tailM m)))
theorem goodM_r {m:Mm} (h:m.r.all okK=false):goodM m=false:=by unfold goodM;rw[h];rfl
theorem goodM_p {m:Mm} (h:all16 m.p=false):goodM m=false:=by unfold goodM;rw[h];simp
theorem goodM_e {m:Mm} (h:all16 m.e=false):goodM m=false:=by unfold goodM;rw[h];simp
theorem goodM_t {m:Mm} (h: ¬tailM m):goodM m=false:=by unfold goodM;simp[h]
theorem goodM_yes {m:Mm} (h1:m.r.all okK=true) (h2:all16 m.p=true) (h3:all16 m.e=true) (h4:tailM m):goodM m=true:=by unfold goodM;simp[h1,h2,h3,h4]
theorem goodM_of {m:Mm} (h:goodM m=true):m.r.all okK=true/\all16 m.p=true/\all16 m.e=true/\tailM m:=by
 unfold goodM at h
 simpa using h
theorem size80':(Tryd.prog.info? 28).map (·.size)=some 80:=by kernel_rfl
theorem size8':(Tryd.prog.info? 27).map (·.size)=some 8:=by kernel_rfl
theorem good_any (m:Mm) (k:m.ok) (w:World):Calls Tryd.prog 23 #[.agg m.ag] w (AnsB' w (goodM m)):=by
 have I0:=hid (MB.new w m)
 have HB:=hid ((Below.refl _ w).alloc (Nat.le_refl _) (.cells m.ag 30))
 obtain⟨W,hW⟩: ∃W,W=w.alloc (.cells m.ag 30):=⟨_,rfl⟩
 rw[<-hW] at I0 HB
 have HW:=hid hW
 clear hW
 have K:=hid k
 have HI8:=hid (fun(xs:List Int) (hx:xs.length=8) (j:Nat) (hj:j<8) (w:World)=>show(Instr.index 27 (.agg (ints xs).toArray) (.int .i64 (j:Nat))).run Tryd.prog w= .ok (.int .i64 (xs.getD j 0)) w from run_index_agi Tryd.underlying27 xs hx j hj w)
 have HI80:=hid (fun(xs:List Int) (hx:xs.length=80) (j:Nat) (hj:j<80) (w:World)=>show(Instr.index 28 (.agg (ints xs).toArray) (.int .i64 (j:Nat))).run Tryd.prog w= .ok (.int .i64 (xs.getD j 0)) w from run_index_agi Tryd.underlying28 xs hx j hj w)
 clear k
 go_enter Tryd.func23,Tryd.ntmps23
 go_wp2_with (first
  |(rw[<-HW.out])
  |(refine wpList_load_mid rfl 27 (.tmp 10) rfl _ _ rfl (ints m.r) _ (I0.out.R K.out) Tryd.underlying27 rfl (by rw[ints_len,K.out.r];exact size8') ?_))
 go_loop [12] (fun iv=> ∃k:Nat,k<=8/\iv= .int .i64 k/\Hid (allTo okK m.r k)) (fun iv=>8-(intOf iv).toNat)
 case atStart=>exact⟨0,by omega,rfl,hid allTo.zero⟩
 case round=>
  obtain⟨k,hk,rfl,HY⟩:=hrel
  by_cases hlt:k<8
  ·have hix:=HI8.out m.r K.out.r k hlt
   obtain⟨x,hx⟩: ∃x,x=m.r.getD k 0:=⟨_,rfl⟩
   rw[<-hx] at hix
   have HX:=hid hx
   clear hx
   by_cases b1:x< -31000
   ·have HF:=hid (show goodM m=false from goodM_r (all_no (i:=k) (by rw[K.out.r];exact hlt) (okK_no (by rw[<-HX.out];exact .inl b1))))
    go_wp2
    go_ret
    exact⟨by rw[HF.out];rfl,HB.out⟩
   by_cases b2:31000<x
   ·have HF:=hid (show goodM m=false from goodM_r (all_no (i:=k) (by rw[K.out.r];exact hlt) (okK_no (by rw[<-HX.out];exact .inr b2))))
    go_wp2
    go_ret
    exact⟨by rw[HF.out];rfl,HB.out⟩
   have HN:=hid (HY.out.succ (by rw[<-HX.out];exact okK_yes (by omega) (by omega)))
   go_wp2
   go_round
   case rel=>exact⟨k+1,by omega,by go_num,HN⟩
   case measure=>simp[intOf]<;>omega
  ·obtain rfl:k=8:=by omega
   have HR:=hid (show m.r.all okK=true from HY.out.all (by rw[K.out.r];exact Nat.le_refl _))
   clear HY hlt hk
   go_wp2_with (refine wpList_load_mid rfl 27 (.tmp 22) rfl _ _ rfl (ints m.p) _ (I0.out.P K.out) Tryd.underlying27 rfl (by rw[ints_len,K.out.p];exact size8') ?_)
   go_loop [24] (fun iv=> ∃k:Nat,k<=8/\iv= .int .i64 k/\Hid (allTo ok16 m.p k)) (fun iv=>8-(intOf iv).toNat)
   case atStart=>exact⟨0,by omega,rfl,hid allTo.zero⟩
   case round=>
    obtain⟨k,hk,rfl,HY⟩:=hrel
    by_cases hlt:k<8
    ·have hix:=HI8.out m.p K.out.p k hlt
     obtain⟨x,hx⟩: ∃x,x=m.p.getD k 0:=⟨_,rfl⟩
     rw[<-hx] at hix
     have HX:=hid hx
     clear hx
     by_cases hbad:x< -32768\/32767<x
     ·have HF:=hid (show goodM m=false from goodM_p (all_no (i:=k) (by rw[K.out.p];exact hlt) (ok16_no (by rw[<-HX.out];exact hbad))))
      have e1:(x==s16 x)=false:=by rw[beq_eq_false_iff_ne];exact fun h=>s16_ne hbad h.symm
      have e2:(x !=s16 x)=true:=by rw[bne_iff_ne];exact fun h=>s16_ne hbad h.symm
      clear hbad
      go_wp2_with (go_at_call 41;refine(concealsat_any _ _).mono ?_;rintro e w' ⟨rfl,rfl⟩)
      go_ret
      exact⟨by rw[HF.out];rfl,HB.out⟩
     ·have HN2:=hid (HY.out.succ (by rw[<-HX.out];exact ok16_yes (by omega) (by omega)))
      have e0:=s16_id (x:=x) (by omega) (by omega)
      clear hbad
      go_wp2_with (go_at_call 41;refine(concealsat_any _ _).mono ?_;rintro e w' ⟨rfl,rfl⟩)
      go_round
      case rel=>exact⟨k+1,by omega,by go_num,HN2⟩
      case measure=>simp[intOf]<;>omega
    ·obtain rfl:k=8:=by omega
     have HP:=hid (show all16 m.p=true from HY.out.all (by rw[K.out.p];exact Nat.le_refl _))
     clear HY hlt hk
     go_wp2_with (refine wpList_load_mid rfl 28 (.tmp 32) rfl _ _ rfl (ints m.e) _ (I0.out.E K.out) Tryd.underlying28 rfl (by rw[ints_len,K.out.e];exact size80') ?_)
     go_loop [34] (fun iv=> ∃k:Nat,k<=80/\iv= .int .i64 k/\Hid (allTo ok16 m.e k)) (fun iv=>80-(intOf iv).toNat)
     case atStart=>exact⟨0,by omega,rfl,hid allTo.zero⟩
     case round=>
      obtain⟨k,hk,rfl,HY⟩:=hrel
      by_cases hlt:k<80
      ·have hix:=HI80.out m.e K.out.e k hlt
       obtain⟨x,hx⟩: ∃x,x=m.e.getD k 0:=⟨_,rfl⟩
       rw[<-hx] at hix
       have HX:=hid hx
       clear hx
       by_cases hbad:x< -32768\/32767<x
       ·have HF:=hid (show goodM m=false from goodM_e (all_no (i:=k) (by rw[K.out.e];exact hlt) (ok16_no (by rw[<-HX.out];exact hbad))))
        have e1:(x==s16 x)=false:=by rw[beq_eq_false_iff_ne];exact fun h=>s16_ne hbad h.symm
        have e2:(x !=s16 x)=true:=by rw[bne_iff_ne];exact fun h=>s16_ne hbad h.symm
        clear hbad
        go_wp2_with (go_at_call 41;refine(concealsat_any _ _).mono ?_;rintro e w' ⟨rfl,rfl⟩)
        go_ret
        exact⟨by rw[HF.out];rfl,HB.out⟩
       ·have HN2:=hid (HY.out.succ (by rw[<-HX.out];exact ok16_yes (by omega) (by omega)))
        have e0:=s16_id (x:=x) (by omega) (by omega)
        clear hbad
        go_wp2_with (go_at_call 41;refine(concealsat_any _ _).mono ?_;rintro e w' ⟨rfl,rfl⟩)
        go_round
        case rel=>exact⟨k+1,by omega,by go_num,HN2⟩
        case measure=>simp[intOf]<;>omega
      ·obtain rfl:k=80:=by omega
       have HE:=hid (show all16 m.e=true from HY.out.all (by rw[K.out.e];exact Nat.le_refl _))
       clear HY hlt hk
       have a1:W.cell? ⟨w.heap.size,98,none⟩=some (.int .i64 m.la):=I0.out.cla K.out
       have a2:W.cell? ⟨w.heap.size,100,none⟩=some (.int .i64 m.se):=I0.out.cse K.out
       have a3:W.cell? ⟨w.heap.size,96,none⟩=some (.int .i64 m.ga):=I0.out.cga K.out
       have a4:W.cell? ⟨w.heap.size,97,none⟩=some (.int .i64 m.pi):=I0.out.cpi K.out
       have a5:W.cell? ⟨w.heap.size,99,none⟩=some (.int .i64 m.er):=I0.out.cer K.out
       by_cases b0:m.la<20
       ·have HF:=hid (show goodM m=false from goodM_t (by unfold tailM;omega))
        go_wp2
        go_ret
        exact⟨by rw[HF.out];rfl,HB.out⟩
       by_cases b1:79<m.la
       ·have HF:=hid (show goodM m=false from goodM_t (by unfold tailM;omega))
        go_wp2
        go_ret
        exact⟨by rw[HF.out];rfl,HB.out⟩
       by_cases b2:m.se<0
       ·have HF:=hid (show goodM m=false from goodM_t (by unfold tailM;omega))
        go_wp2
        go_ret
        exact⟨by rw[HF.out];rfl,HB.out⟩
       by_cases b3:65536<=m.se
       ·have HF:=hid (show goodM m=false from goodM_t (by unfold tailM;omega))
        go_wp2
        go_ret
        exact⟨by rw[HF.out];rfl,HB.out⟩
       by_cases b4:m.ga<0
       ·have HF:=hid (show goodM m=false from goodM_t (by unfold tailM;omega))
        go_wp2
        go_ret
        exact⟨by rw[HF.out];rfl,HB.out⟩
       by_cases b5:32767<m.ga
       ·have HF:=hid (show goodM m=false from goodM_t (by unfold tailM;omega))
        go_wp2
        go_ret
        exact⟨by rw[HF.out];rfl,HB.out⟩
       by_cases b6:m.pi<0
       ·have HF:=hid (show goodM m=false from goodM_t (by unfold tailM;omega))
        go_wp2
        go_ret
        exact⟨by rw[HF.out];rfl,HB.out⟩
       by_cases b7:18022<m.pi
       ·have HF:=hid (show goodM m=false from goodM_t (by unfold tailM;omega))
        go_wp2
        go_ret
        exact⟨by rw[HF.out];rfl,HB.out⟩
       by_cases b8:m.er<0
       ·have HF:=hid (show goodM m=false from goodM_t (by unfold tailM;omega))
        go_wp2
        go_ret
        exact⟨by rw[HF.out];rfl,HB.out⟩
       by_cases b9:6<m.er
       ·have HF:=hid (show goodM m=false from goodM_t (by unfold tailM;omega))
        have e9:decide (m.er<=6)=false:=by simp;omega
        go_wp2
        go_ret
        exact⟨by rw[HF.out];rfl,HB.out⟩
       have HT:=hid (show goodM m=true from goodM_yes HR.out HP.out HE.out (by unfold tailM;omega))
       go_wp2
       go_ret
       exact⟨by rw[HT.out];rfl,HB.out⟩
end Go.Proofs.YthoiikkjjaldnaaDoor
