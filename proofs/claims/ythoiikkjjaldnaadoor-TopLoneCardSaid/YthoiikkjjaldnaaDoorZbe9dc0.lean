/- Texts that the law rests on, laid together: RefClip, Down, DownK, GrownW, SliceW. -/
import Derived.Test.YthoiikkjjaldnaaDoorZd03041
import Derived.Test.YthoiikkjjaldnaaDoorZ7e0d48
import Derived.Test.YthoiikkjjaldnaaDoorZe4c9da
import Derived.IntWalk
import Derived.BigQuiet
import Derived.Deep.QuietTactic
set_option maxHeartbeats 1000000
namespace Go.Proofs.YthoiikkjjaldnaaDoor
set_option linter.unusedVariables false
set_option linter.unusedSimpArgs false
set_option maxRecDepth 100000
open Go.RowKit
end Go.Proofs.YthoiikkjjaldnaaDoor
namespace Go.Proofs.YthoiikkjjaldnaaDoor
set_option linter.unusedVariables false
set_option linter.unusedSimpArgs false
set_option maxRecDepth 100000
open Go.RowKit
end Go.Proofs.YthoiikkjjaldnaaDoor
namespace Go.Proofs.YthoiikkjjaldnaaDoor
set_option linter.unusedVariables false
set_option linter.unusedSimpArgs false
set_option maxRecDepth 100000
open Go.RowKit
end Go.Proofs.YthoiikkjjaldnaaDoor
namespace Go.Proofs.YthoiikkjjaldnaaDoor
set_option linter.unusedVariables false
set_option linter.unusedSimpArgs false
set_option maxRecDepth 100000
open Go.RowKit
theorem Rs.drew {w:World} {B:Nat} {A:Option Addr} {xs:List Int} (h:Rs w B A xs):Rs w.drew B A xs:=h
theorem Rs.drewN {w:World} {B:Nat} {A:Option Addr} {xs:List Int} (h:Rs w B A xs) (n:Nat):Rs (w.drewN n) B A xs:=h
def NewS (w:World) (xs:List Int) (e:Ending) (w':World):Prop:= ∃A c,e= .returned (.slice A xs.length c)/\Own w' w.heap.size A c xs/\Below w.heap.size w w'
def GrowMid (a zs:List Int) (q:Int) (m i:Nat):Prop:=zs.length=m+1/\∀j,j<=m->zs.getD j 0=if j<i then(growL a q m).getD j 0 else a.getD j 0
theorem GrowMid.step {a zs:List Int} {q:Int} {m i:Nat} (h:GrowMid a zs q m i) (h0:1<=i) (hi:i<=m):
 GrowMid a (zs.set i (a.getD i 0+q*a.getD (m-i) 0/32768)) q m (i+1):=by
 refine⟨by simpa using h.1,fun j hj=>?_⟩
 by_cases he:i=j
 ·subst he
  rw[get_set_same _ _ _ (by rw[h.1];omega),if_pos (by omega),growL_get _ _ _ _ hi,if_neg (by omega)]
 ·rw[get_set_other _ _ he,h.2 j hj]
  by_cases h2:j<i
  ·rw[if_pos h2,if_pos (by omega)]
  ·rw[if_neg h2,if_neg (by omega)]
end Go.Proofs.YthoiikkjjaldnaaDoor
namespace Go.Proofs.YthoiikkjjaldnaaDoor
set_option linter.unusedVariables false
set_option linter.unusedSimpArgs false
set_option maxRecDepth 100000
open Go.RowKit
def ok16 (x:Int):Bool:=decide (-32768<=x/\x<=32767)
theorem ok16_yes {x:Int} (h1: -32768<=x) (h2:x<=32767):ok16 x=true:=by unfold ok16;simp;omega
theorem ok16_no {x:Int} (h:x< -32768\/32767<x):ok16 x=false:=by unfold ok16;simp;omega
def all16 (xs:List Int):Bool:=xs.all ok16
theorem all16_at {xs:List Int} (h:all16 xs=true) (i:Nat): -32768<=xs.getD i 0/\xs.getD i 0<=32767:=by
 by_cases hi:i<xs.length
 ·have:=all_at h i hi
  unfold ok16 at this
  simpa using this
 ·rw[List.getD_eq_getElem?_getD,List.getElem?_eq_none (by omega)];simp
def AnsB' (w:World) (b:Bool) (e:Ending) (w':World):Prop:=e= .returned (.bool b)/\Below w.heap.size w w'
theorem s16_id {x:Int} (h1: -32768<=x) (h2:x<=32767):s16 x=x:=by unfold s16 lim;rw[if_neg (by omega),if_neg (by omega)]
theorem s16_ne {x:Int} (h:x< -32768\/32767<x):s16 x≠x:=by have:=s16_range x;omega
theorem frontsat_any (x:Int) (w:World):Calls Tryd.prog 43 #[.int .i64 x] w fun e w'=>e= .returned (.int .i64 (s16 x))/\w=w':=by
 go_enter Tryd.func43,Tryd.ntmps43
 go_wp2_with (go_at_call 75;refine(sat16_any _ _).mono ?_;rintro e w' ⟨rfl,rfl⟩)
 go_ret
 exact⟨rfl,rfl⟩
theorem pitchsat_any (x:Int) (w:World):Calls Tryd.prog 93 #[.int .i64 x] w fun e w'=>e= .returned (.int .i64 (s16 x))/\w=w':=by
 go_enter Tryd.func93,Tryd.ntmps93
 go_wp2_with (go_at_call 75;refine(sat16_any _ _).mono ?_;rintro e w' ⟨rfl,rfl⟩)
 go_ret
 exact⟨rfl,rfl⟩
theorem pulsessat_any (x:Int) (w:World):Calls Tryd.prog 85 #[.int .i64 x] w fun e w'=>e= .returned (.int .i64 (s16 x))/\w=w':=by
 go_enter Tryd.func85,Tryd.ntmps85
 go_wp2_with (go_at_call 75;refine(sat16_any _ _).mono ?_;rintro e w' ⟨rfl,rfl⟩)
 go_ret
 exact⟨rfl,rfl⟩
theorem concealsat_any (x:Int) (w:World):Calls Tryd.prog 41 #[.int .i64 x] w fun e w'=>e= .returned (.int .i64 (s16 x))/\w=w':=by
 go_enter Tryd.func41,Tryd.ntmps41
 go_wp2_with (go_at_call 75;refine(sat16_any _ _).mono ?_;rintro e w' ⟨rfl,rfl⟩)
 go_ret
 exact⟨rfl,rfl⟩
theorem synthsat_any (x:Int) (w:World):Calls Tryd.prog 78 #[.int .i64 x] w fun e w'=>e= .returned (.int .i64 (s16 x))/\w=w':=by
 go_enter Tryd.func78,Tryd.ntmps78
 go_wp2_with (go_at_call 75;refine(sat16_any _ _).mono ?_;rintro e w' ⟨rfl,rfl⟩)
 go_ret
 exact⟨rfl,rfl⟩
theorem codersat_any (x:Int) (w:World):Calls Tryd.prog 81 #[.int .i64 x] w fun e w'=>e= .returned (.int .i64 (s16 x))/\w=w':=by
 go_enter Tryd.func81,Tryd.ntmps81
 go_wp2_with (go_at_call 75;refine(sat16_any _ _).mono ?_;rintro e w' ⟨rfl,rfl⟩)
 go_ret
 exact⟨rfl,rfl⟩
theorem frontright_any (A:Option Addr) (c n B:Nat) (xs:List Int) (w:World) (hr:Rs w B A xs) (hn:xs.length=n) (hl:n<=17592186044416):
 Calls Tryd.prog 42 #[.slice A n c] w fun e w'=>e= .returned (.bool (all16 xs))/\w=w':=by
 have HR:=hid hr
 have HN:=hid hn
 clear hr hn
 go_enter Tryd.func42,Tryd.ntmps42
 go_wp2
 go_loop [7] (fun iv=> ∃k:Nat,k<=n/\iv= .int .i64 k/\Hid (allTo ok16 xs k)) (fun iv=>n-(intOf iv).toNat)
 case atStart=>exact⟨0,by omega,rfl,hid allTo.zero⟩
 case round=>
  obtain⟨k,hk,rfl,HY⟩:=hrel
  by_cases hlt:k<n
  ·obtain⟨ad,rfl,_,c1⟩:=HR.out.at_ (k:=k) (by rw[HN.out];exact hlt)
   obtain⟨x,hx⟩: ∃x,x=xs.getD k 0:=⟨_,rfl⟩
   rw[<-hx] at c1
   have HX:=hid hx
   clear hx
   by_cases hbad:x< -32768\/32767<x
   ·have HF:=hid (show all16 xs=false from all_no (i:=k) (by rw[HN.out];exact hlt) (ok16_no (by rw[<-HX.out];exact hbad)))
    have e1:(x==s16 x)=false:=by rw[beq_eq_false_iff_ne];exact fun h=>s16_ne hbad h.symm
    have e2:(x !=s16 x)=true:=by rw[bne_iff_ne];exact fun h=>s16_ne hbad h.symm
    clear hbad
    go_wp2_with (go_at_call 43;refine(frontsat_any _ _).mono ?_;rintro e w' ⟨rfl,rfl⟩)
    go_ret
    exact⟨by rw[HF.out];rfl,rfl⟩
   ·have HN2:=hid (HY.out.succ (by rw[<-HX.out];exact ok16_yes (by omega) (by omega)))
    have e0:=s16_id (x:=x) (by omega) (by omega)
    clear hbad
    go_wp2_with (go_at_call 43;refine(frontsat_any _ _).mono ?_;rintro e w' ⟨rfl,rfl⟩)
    go_round
    case rel=>exact⟨k+1,by omega,by go_num,HN2⟩
    case measure=>simp[intOf]<;>omega
  ·have HF:=hid (show all16 xs=true from HY.out.all (by rw[HN.out];omega))
   go_wp2
   go_ret
   exact⟨by rw[HF.out];rfl,rfl⟩
theorem pitchright_any (A:Option Addr) (c n B:Nat) (xs:List Int) (w:World) (hr:Rs w B A xs) (hn:xs.length=n) (hl:n<=17592186044416):
 Calls Tryd.prog 82 #[.slice A n c] w fun e w'=>e= .returned (.bool (all16 xs))/\w=w':=by
 have HR:=hid hr
 have HN:=hid hn
 clear hr hn
 go_enter Tryd.func82,Tryd.ntmps82
 go_wp2
 go_loop [7] (fun iv=> ∃k:Nat,k<=n/\iv= .int .i64 k/\Hid (allTo ok16 xs k)) (fun iv=>n-(intOf iv).toNat)
 case atStart=>exact⟨0,by omega,rfl,hid allTo.zero⟩
 case round=>
  obtain⟨k,hk,rfl,HY⟩:=hrel
  by_cases hlt:k<n
  ·obtain⟨ad,rfl,_,c1⟩:=HR.out.at_ (k:=k) (by rw[HN.out];exact hlt)
   obtain⟨x,hx⟩: ∃x,x=xs.getD k 0:=⟨_,rfl⟩
   rw[<-hx] at c1
   have HX:=hid hx
   clear hx
   by_cases hbad:x< -32768\/32767<x
   ·have HF:=hid (show all16 xs=false from all_no (i:=k) (by rw[HN.out];exact hlt) (ok16_no (by rw[<-HX.out];exact hbad)))
    have e1:(x==s16 x)=false:=by rw[beq_eq_false_iff_ne];exact fun h=>s16_ne hbad h.symm
    have e2:(x !=s16 x)=true:=by rw[bne_iff_ne];exact fun h=>s16_ne hbad h.symm
    clear hbad
    go_wp2_with (go_at_call 93;refine(pitchsat_any _ _).mono ?_;rintro e w' ⟨rfl,rfl⟩)
    go_ret
    exact⟨by rw[HF.out];rfl,rfl⟩
   ·have HN2:=hid (HY.out.succ (by rw[<-HX.out];exact ok16_yes (by omega) (by omega)))
    have e0:=s16_id (x:=x) (by omega) (by omega)
    clear hbad
    go_wp2_with (go_at_call 93;refine(pitchsat_any _ _).mono ?_;rintro e w' ⟨rfl,rfl⟩)
    go_round
    case rel=>exact⟨k+1,by omega,by go_num,HN2⟩
    case measure=>simp[intOf]<;>omega
  ·have HF:=hid (show all16 xs=true from HY.out.all (by rw[HN.out];omega))
   go_wp2
   go_ret
   exact⟨by rw[HF.out];rfl,rfl⟩
end Go.Proofs.YthoiikkjjaldnaaDoor
