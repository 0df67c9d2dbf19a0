/- Texts that the law rests on, laid together: GainO. -/
import Derived.Test.YthoiikkjjaldnaaDoorZ840156
import Derived.Test.YthoiikkjjaldnaaDoorZ7e0d48
import Derived.Test.YthoiikkjjaldnaaDoorZdf659f
import Derived.BigQuiet
import Derived.Deep.QuietTactic
set_option maxHeartbeats 4000000
namespace Go.Proofs.YthoiikkjjaldnaaDoor
set_option linter.unusedVariables false
set_option linter.unusedSimpArgs false
set_option maxRecDepth 100000
open Go.RowKit
def glF (k:Nat):Int:=glV (k:Nat)
def glL:List Int:=(List.range 32).map glF
theorem glL_len:glL.length=32:=by simp[glL]
theorem glL_get {k:Nat} (h:k<32):glL.getD k 0=glV (k:Nat):=range_get glF h
theorem glL_at (i:Nat):0<=glL.getD i 0/\glL.getD i 0<=32767:=by
 by_cases h:i<32
 ·rw[glL_get h];exact glV_range _
 ·rw[List.getD_eq_getElem?_getD,List.getElem?_eq_none (by rw[glL_len];omega)];simp
def cap60 (x:Int):Int:=if x<=1152921504606846976 then x else 1152921504606846976
def cap44 (x:Int):Int:=if x<=17592186044416 then x else 17592186044416
def gainOneV (c e:Int):Int:=if c<=0\/e<=0 then 0 else nearB glL 1 (cap60 c) (cap44 e) 32
theorem gainOne_any (c e:Int) (w:World) (T:TabA w 2 rootsL) (c1: -9223372036854775808<=c) (c2:c<=9223372036854775807) (e1: -9223372036854775808<=e) (e2:e<=9223372036854775807):
 Calls Tryd.prog 61 #[.int .i64 c,.int .i64 e] w fun e' w'=>e'= .returned (.int .i64 (gainOneV c e))/\w=w':=by
 by_cases h1:c<=0
 ·have FIN:=hid (show gainOneV c e=0 by unfold gainOneV;rw[if_pos (.inl h1)])
  clear T
  go_enter Tryd.func61,Tryd.ntmps61
  go_wp2
  go_ret
  exact⟨by rw[FIN.out];rfl,rfl⟩
 by_cases h2:e<=0
 ·have FIN:=hid (show gainOneV c e=0 by unfold gainOneV;rw[if_pos (.inr h2)])
  clear T
  go_enter Tryd.func61,Tryd.ntmps61
  go_wp2
  go_ret
  exact⟨by rw[FIN.out];rfl,rfl⟩
 have FIN:=hid (show gainOneV c e=nearB glL 1 (cap60 c) (cap44 e) 32 by unfold gainOneV;rw[if_neg (by omega)])
 have KL:=hid (fun n=>gainLevel_any n w T)
 clear T
 have p1:0<c:=by omega
 have p2:0<e:=by omega
 clear h1 h2
 by_cases b1:c<=1152921504606846976
 ·by_cases b2:e<=17592186044416
  ·have FIN:=hid (show gainOneV c e=nearB glL 1 c e 32 by rw[FIN.out];unfold cap60 cap44;rw[if_pos b1,if_pos b2])
   go_enter Tryd.func61,Tryd.ntmps61
   go_wp2
   go_loop [5,6] (fun bv iv=> ∃(k:Nat),1<=k/\k<=32/\iv= .int .i64 k/\bv= .int .i64 (nearB glL 1 (c) (e) k)) (fun _ iv=>32-(intOf iv).toNat)
   case atStart=>exact⟨1,by omega,by omega,rfl,by simp[nearB]⟩
   case round=>
    obtain⟨k,hk1,hk,rfl,rfl⟩:=hrel
    have nb:=nearB_range glL 1 (c) (e) k
    have ST:=hid (nearB_step glL 1 (c) (e) (k:=k) (by omega))
    by_cases hlt:k<32
    ·generalize nearB glL 1 (c) (e) k=bst at*
     have K1:=KL.out ((k:Int)-1)
     have K2:=KL.out (k:Nat)
     rw[show glV ((k:Int)-1)=glL.getD (k-1) 0 by rw[glL_get (by omega)];congr 1;omega] at K1
     rw[<-glL_get hlt] at K2
     have v0:=glL_at k
     have v1:=glL_at (k-1)
     generalize glL.getD k 0=y at*
     generalize glL.getD (k-1) 0=x at*
     have mb:=mul_small (x:=x+y) (X:=65534) (y:=(e)) (Y:=17592186044416) (by omega) (by omega) (by omega) (by omega)
     have hcomm:(y+x)*(e)=(x+y)*(e):=by rw[Int.add_comm]
     obtain⟨mb1,mb2⟩:=mb
     have K1':=hid K1
     have K2':=hid K2
     clear K1 K2
     have l1:(k:Int)<=31:=by omega
     by_cases hgt:(x+y)*(e)<2*(c)
     ·have HS2:=hid (show nearB glL 1 (c) (e) (k+1)=k by rw[ST.out,if_pos (by rw[hcomm];omega)])
      clear ST hcomm
      go_wp2_with (first
       |(go_at_call 63;(with_reducible refine K1'.out.mono ?_);rintro e1 w' ⟨rfl,rfl⟩)
       |(go_at_call 63;(with_reducible refine K2'.out.mono ?_);rintro e1 w' ⟨rfl,rfl⟩))
      all_goals
       go_round
       case rel=>exact⟨k+1,by omega,by omega,by go_num,by rw[HS2.out]⟩
       case measure=>simp[intOf]<;>omega
     ·have HS2:=hid (show nearB glL 1 (c) (e) (k+1)=bst by rw[ST.out,if_neg (by rw[hcomm];omega)])
      clear ST hcomm
      go_wp2_with (first
       |(go_at_call 63;(with_reducible refine K1'.out.mono ?_);rintro e1 w' ⟨rfl,rfl⟩)
       |(go_at_call 63;(with_reducible refine K2'.out.mono ?_);rintro e1 w' ⟨rfl,rfl⟩))
      all_goals
       go_round
       case rel=>exact⟨k+1,by omega,by omega,by go_num,by rw[HS2.out]⟩
       case measure=>simp[intOf]<;>omega
    ·obtain rfl:k=32:=by omega
     go_wp2
     go_ret
     exact⟨by rw[FIN.out];rfl,rfl⟩
  ·have b3:17592186044416<e:=by omega
   have FIN:=hid (show gainOneV c e=nearB glL 1 c 17592186044416 32 by rw[FIN.out];unfold cap60 cap44;rw[if_pos b1,if_neg b2])
   go_enter Tryd.func61,Tryd.ntmps61
   go_wp2
   go_loop [5,6] (fun bv iv=> ∃(k:Nat),1<=k/\k<=32/\iv= .int .i64 k/\bv= .int .i64 (nearB glL 1 (c) (17592186044416) k)) (fun _ iv=>32-(intOf iv).toNat)
   case atStart=>exact⟨1,by omega,by omega,rfl,by simp[nearB]⟩
   case round=>
    obtain⟨k,hk1,hk,rfl,rfl⟩:=hrel
    have nb:=nearB_range glL 1 (c) (17592186044416) k
    have ST:=hid (nearB_step glL 1 (c) (17592186044416) (k:=k) (by omega))
    by_cases hlt:k<32
    ·generalize nearB glL 1 (c) (17592186044416) k=bst at*
     have K1:=KL.out ((k:Int)-1)
     have K2:=KL.out (k:Nat)
     rw[show glV ((k:Int)-1)=glL.getD (k-1) 0 by rw[glL_get (by omega)];congr 1;omega] at K1
     rw[<-glL_get hlt] at K2
     have v0:=glL_at k
     have v1:=glL_at (k-1)
     generalize glL.getD k 0=y at*
     generalize glL.getD (k-1) 0=x at*
     have mb:=mul_small (x:=x+y) (X:=65534) (y:=(17592186044416)) (Y:=17592186044416) (by omega) (by omega) (by omega) (by omega)
     have hcomm:(y+x)*(17592186044416)=(x+y)*(17592186044416):=by rw[Int.add_comm]
     obtain⟨mb1,mb2⟩:=mb
     have K1':=hid K1
     have K2':=hid K2
     clear K1 K2
     have l1:(k:Int)<=31:=by omega
     by_cases hgt:(x+y)*(17592186044416)<2*(c)
     ·have HS2:=hid (show nearB glL 1 (c) (17592186044416) (k+1)=k by rw[ST.out,if_pos (by rw[hcomm];omega)])
      clear ST hcomm
      go_wp2_with (first
       |(go_at_call 63;(with_reducible refine K1'.out.mono ?_);rintro e1 w' ⟨rfl,rfl⟩)
       |(go_at_call 63;(with_reducible refine K2'.out.mono ?_);rintro e1 w' ⟨rfl,rfl⟩))
      all_goals
       go_round
       case rel=>exact⟨k+1,by omega,by omega,by go_num,by rw[HS2.out]⟩
       case measure=>simp[intOf]<;>omega
     ·have HS2:=hid (show nearB glL 1 (c) (17592186044416) (k+1)=bst by rw[ST.out,if_neg (by rw[hcomm];omega)])
      clear ST hcomm
      go_wp2_with (first
       |(go_at_call 63;(with_reducible refine K1'.out.mono ?_);rintro e1 w' ⟨rfl,rfl⟩)
       |(go_at_call 63;(with_reducible refine K2'.out.mono ?_);rintro e1 w' ⟨rfl,rfl⟩))
      all_goals
       go_round
       case rel=>exact⟨k+1,by omega,by omega,by go_num,by rw[HS2.out]⟩
       case measure=>simp[intOf]<;>omega
    ·obtain rfl:k=32:=by omega
     go_wp2
     go_ret
     exact⟨by rw[FIN.out];rfl,rfl⟩
 ·have b4:1152921504606846976<c:=by omega
  by_cases b2:e<=17592186044416
  ·have FIN:=hid (show gainOneV c e=nearB glL 1 1152921504606846976 e 32 by rw[FIN.out];unfold cap60 cap44;rw[if_neg b1,if_pos b2])
   go_enter Tryd.func61,Tryd.ntmps61
   go_wp2
   go_loop [5,6] (fun bv iv=> ∃(k:Nat),1<=k/\k<=32/\iv= .int .i64 k/\bv= .int .i64 (nearB glL 1 (1152921504606846976) (e) k)) (fun _ iv=>32-(intOf iv).toNat)
   case atStart=>exact⟨1,by omega,by omega,rfl,by simp[nearB]⟩
   case round=>
    obtain⟨k,hk1,hk,rfl,rfl⟩:=hrel
    have nb:=nearB_range glL 1 (1152921504606846976) (e) k
    have ST:=hid (nearB_step glL 1 (1152921504606846976) (e) (k:=k) (by omega))
    by_cases hlt:k<32
    ·generalize nearB glL 1 (1152921504606846976) (e) k=bst at*
     have K1:=KL.out ((k:Int)-1)
     have K2:=KL.out (k:Nat)
     rw[show glV ((k:Int)-1)=glL.getD (k-1) 0 by rw[glL_get (by omega)];congr 1;omega] at K1
     rw[<-glL_get hlt] at K2
     have v0:=glL_at k
     have v1:=glL_at (k-1)
     generalize glL.getD k 0=y at*
     generalize glL.getD (k-1) 0=x at*
     have mb:=mul_small (x:=x+y) (X:=65534) (y:=(e)) (Y:=17592186044416) (by omega) (by omega) (by omega) (by omega)
     have hcomm:(y+x)*(e)=(x+y)*(e):=by rw[Int.add_comm]
     obtain⟨mb1,mb2⟩:=mb
     have K1':=hid K1
     have K2':=hid K2
     clear K1 K2
     have l1:(k:Int)<=31:=by omega
     by_cases hgt:(x+y)*(e)<2*(1152921504606846976)
     ·have HS2:=hid (show nearB glL 1 (1152921504606846976) (e) (k+1)=k by rw[ST.out,if_pos (by rw[hcomm];omega)])
      clear ST hcomm
      go_wp2_with (first
       |(go_at_call 63;(with_reducible refine K1'.out.mono ?_);rintro e1 w' ⟨rfl,rfl⟩)
       |(go_at_call 63;(with_reducible refine K2'.out.mono ?_);rintro e1 w' ⟨rfl,rfl⟩))
      all_goals
       go_round
       case rel=>exact⟨k+1,by omega,by omega,by go_num,by rw[HS2.out]⟩
       case measure=>simp[intOf]<;>omega
     ·have HS2:=hid (show nearB glL 1 (1152921504606846976) (e) (k+1)=bst by rw[ST.out,if_neg (by rw[hcomm];omega)])
      clear ST hcomm
      go_wp2_with (first
       |(go_at_call 63;(with_reducible refine K1'.out.mono ?_);rintro e1 w' ⟨rfl,rfl⟩)
       |(go_at_call 63;(with_reducible refine K2'.out.mono ?_);rintro e1 w' ⟨rfl,rfl⟩))
      all_goals
       go_round
       case rel=>exact⟨k+1,by omega,by omega,by go_num,by rw[HS2.out]⟩
       case measure=>simp[intOf]<;>omega
    ·obtain rfl:k=32:=by omega
     go_wp2
     go_ret
     exact⟨by rw[FIN.out];rfl,rfl⟩
  ·have b3:17592186044416<e:=by omega
   have FIN:=hid (show gainOneV c e=nearB glL 1 1152921504606846976 17592186044416 32 by rw[FIN.out];unfold cap60 cap44;rw[if_neg b1,if_neg b2])
   go_enter Tryd.func61,Tryd.ntmps61
   go_wp2
   go_loop [5,6] (fun bv iv=> ∃(k:Nat),1<=k/\k<=32/\iv= .int .i64 k/\bv= .int .i64 (nearB glL 1 (1152921504606846976) (17592186044416) k)) (fun _ iv=>32-(intOf iv).toNat)
   case atStart=>exact⟨1,by omega,by omega,rfl,by simp[nearB]⟩
   case round=>
    obtain⟨k,hk1,hk,rfl,rfl⟩:=hrel
    have nb:=nearB_range glL 1 (1152921504606846976) (17592186044416) k
    have ST:=hid (nearB_step glL 1 (1152921504606846976) (17592186044416) (k:=k) (by omega))
    by_cases hlt:k<32
    ·generalize nearB glL 1 (1152921504606846976) (17592186044416) k=bst at*
     have K1:=KL.out ((k:Int)-1)
     have K2:=KL.out (k:Nat)
     rw[show glV ((k:Int)-1)=glL.getD (k-1) 0 by rw[glL_get (by omega)];congr 1;omega] at K1
     rw[<-glL_get hlt] at K2
     have v0:=glL_at k
     have v1:=glL_at (k-1)
     generalize glL.getD k 0=y at*
     generalize glL.getD (k-1) 0=x at*
     have mb:=mul_small (x:=x+y) (X:=65534) (y:=(17592186044416)) (Y:=17592186044416) (by omega) (by omega) (by omega) (by omega)
     have hcomm:(y+x)*(17592186044416)=(x+y)*(17592186044416):=by rw[Int.add_comm]
     obtain⟨mb1,mb2⟩:=mb
     have K1':=hid K1
     have K2':=hid K2
     clear K1 K2
     have l1:(k:Int)<=31:=by omega
     by_cases hgt:(x+y)*(17592186044416)<2*(1152921504606846976)
     ·have HS2:=hid (show nearB glL 1 (1152921504606846976) (17592186044416) (k+1)=k by rw[ST.out,if_pos (by rw[hcomm];omega)])
      clear ST hcomm
      go_wp2_with (first
       |(go_at_call 63;(with_reducible refine K1'.out.mono ?_);rintro e1 w' ⟨rfl,rfl⟩)
       |(go_at_call 63;(with_reducible refine K2'.out.mono ?_);rintro e1 w' ⟨rfl,rfl⟩))
      all_goals
       go_round
       case rel=>exact⟨k+1,by omega,by omega,by go_num,by rw[HS2.out]⟩
       case measure=>simp[intOf]<;>omega
     ·have HS2:=hid (show nearB glL 1 (1152921504606846976) (17592186044416) (k+1)=bst by rw[ST.out,if_neg (by rw[hcomm];omega)])
      clear ST hcomm
      go_wp2_with (first
       |(go_at_call 63;(with_reducible refine K1'.out.mono ?_);rintro e1 w' ⟨rfl,rfl⟩)
       |(go_at_call 63;(with_reducible refine K2'.out.mono ?_);rintro e1 w' ⟨rfl,rfl⟩))
      all_goals
       go_round
       case rel=>exact⟨k+1,by omega,by omega,by go_num,by rw[HS2.out]⟩
       case measure=>simp[intOf]<;>omega
    ·obtain rfl:k=32:=by omega
     go_wp2
     go_ret
     exact⟨by rw[FIN.out];rfl,rfl⟩
end Go.Proofs.YthoiikkjjaldnaaDoor
