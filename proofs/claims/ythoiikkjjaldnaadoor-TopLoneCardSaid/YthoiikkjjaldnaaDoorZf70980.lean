/- Texts that the law rests on, laid together: NearW. -/
import Derived.Test.YthoiikkjjaldnaaDoorZ840156
import Derived.Test.YthoiikkjjaldnaaDoorZ4b8d9d
import Derived.BigQuiet
import Derived.Deep.QuietTactic
set_option maxHeartbeats 4000000
namespace Go.Proofs.YthoiikkjjaldnaaDoor
set_option linter.unusedVariables false
set_option linter.unusedSimpArgs false
set_option maxRecDepth 100000
open Go.RowKit
def cap40 (x:Int):Int:=if x<=1099511627776 then x else 1099511627776
def nearestV (c e:Int):Int:=if c<=0\/e<=0 then 0 else nearB gainsL 16384 (cap40 c) (cap40 e) 8
theorem gainsL_at (i:Nat):0<=gainsL.getD i 0/\gainsL.getD i 0<=65536:=by
 by_cases h:i<8
 ·have: ∀j,j<8->0<=gainsL.getD j 0/\gainsL.getD j 0<=65536:=by decide
  exact this i h
 ·rw[List.getD_eq_getElem?_getD,List.getElem?_eq_none (by simp[gainsL];omega)];simp
theorem pitchNearest_any (c e:Int) (w:World) (T:TabA w 0 gainsL) (c1: -9223372036854775808<=c) (c2:c<=9223372036854775807) (e1: -9223372036854775808<=e) (e2:e<=9223372036854775807):
 Calls Tryd.prog 54 #[.int .i64 c,.int .i64 e] w fun e' w'=>e'= .returned (.int .i64 (nearestV c e))/\Below w.heap.size w w':=by
 by_cases h1:c<=0
 ·have FIN:=hid (show nearestV c e=0 by unfold nearestV;rw[if_pos (.inl h1)])
  clear T
  go_enter Tryd.func54,Tryd.ntmps54
  go_wp2
  go_ret
  exact⟨by rw[FIN.out];rfl,Below.refl _ _⟩
 by_cases h2:e<=0
 ·have FIN:=hid (show nearestV c e=0 by unfold nearestV;rw[if_pos (.inr h2)])
  clear T
  go_enter Tryd.func54,Tryd.ntmps54
  go_wp2
  go_ret
  exact⟨by rw[FIN.out];rfl,Below.refl _ _⟩
 have FIN:=hid (show nearestV c e=nearB gainsL 16384 (cap40 c) (cap40 e) 8 by unfold nearestV;rw[if_neg (by omega)])
 have TT:=hid T
 clear T
 have p1:0<c:=by omega
 have p2:0<e:=by omega
 clear h1 h2
 by_cases b1:c<=1099511627776
 ·by_cases b2:e<=1099511627776
  ·have FIN:=hid (show nearestV c e=nearB gainsL 16384 c e 8 by rw[FIN.out];unfold cap40;rw[if_pos b1,if_pos b2])
   go_enter Tryd.func54,Tryd.ntmps54
   go_wp2
   go_loopw [5,6] (fun bv iv wr=> ∃(k:Nat),1<=k/\k<=8/\iv= .int .i64 k/\bv= .int .i64 (nearB gainsL 16384 (c) (e) k)/\Hid (Below w.heap.size w wr)) (fun _ iv _=>8-(intOf iv).toNat)
   case atStart=>exact⟨1,by omega,by omega,rfl,by simp[nearB],hid (Below.refl _ _)⟩
   case round=>
    obtain⟨k,hk1,hk,rfl,rfl,HB⟩:=hrel
    have nb:=nearB_range gainsL 16384 (c) (e) k
    have ST:=hid (nearB_step gainsL 16384 (c) (e) (k:=k) (by omega))
    by_cases hlt:k<8
    ·generalize nearB gainsL 16384 (c) (e) k=bst at*
     have TW:=TT.out.below HB.out
     have q0:=TW.cell k hlt
     have q1:=TW.cell (k-1) (by show k-1<8;omega)
     have v0:=gainsL_at k
     have v1:=gainsL_at (k-1)
     generalize gainsL.getD k 0=y at*
     generalize gainsL.getD (k-1) 0=x at*
     obtain⟨m,hm⟩: ∃m,m=k-1:=⟨_,rfl⟩
     rw[<-hm] at q1
     have mb:=mul_small (x:=y+x) (X:=131072) (y:=(e)) (Y:=1099511627776) (by omega) (by omega) (by omega) (by omega)
     have hw0:IntKind.i64.wrap ((k:Int)-1)=(m:Nat):=by rw[IntKind.wrap_i64];omega
     have hw1:IntKind.i64.wrap (y+x)=y+x:=by rw[IntKind.wrap_i64];omega
     have hw2:IntKind.i64.wrap (32768*(c))=32768*(c):=by rw[IntKind.wrap_i64];omega
     have hw3:IntKind.i64.wrap ((y+x)*(e))=(y+x)*(e):=by rw[IntKind.wrap_i64];omega
     have i1:(k:Int)<8:=by omega
     have i2:(m:Int)<8:=by omega
     have i3:(0:Int)<=m:=by omega
     have i4:(0:Int)<=k:=by omega
     have HM:=hid hm
     clear hm TW
     by_cases hgt:(y+x)*(e)<32768*(c)
     ·have HS2:=hid (show nearB gainsL 16384 (c) (e) (k+1)=k by rw[ST.out,if_pos (by omega)])
      have dd:decide ((y+x)*(e)<32768*(c))=true:=by simpa using hgt
      clear ST
      go_wp2
      go_quiet (fail)
      clear hw0 hw1 hw2 hw3
      go_wp2
      go_roundw
      case rel=>exact⟨k+1,by omega,by omega,by go_num,by rw[HS2.out],hid (HB.out.trans ((below_drN _ _).mono HB.out.size))⟩
      case measure=>simp[intOf]<;>omega
     ·have HS2:=hid (show nearB gainsL 16384 (c) (e) (k+1)=bst by rw[ST.out,if_neg (by omega)])
      have dd:decide ((y+x)*(e)<32768*(c))=false:=by simpa using hgt
      clear ST
      go_wp2
      go_quiet (fail)
      clear hw0 hw1 hw2 hw3
      go_wp2
      go_roundw
      case rel=>exact⟨k+1,by omega,by omega,by go_num,by rw[HS2.out],hid (HB.out.trans ((below_drN _ _).mono HB.out.size))⟩
      case measure=>simp[intOf]<;>omega
    ·obtain rfl:k=8:=by omega
     go_wp2
     go_ret
     exact⟨by rw[FIN.out];rfl,HB.out⟩
  ·have b3:1099511627776<e:=by omega
   have FIN:=hid (show nearestV c e=nearB gainsL 16384 c 1099511627776 8 by rw[FIN.out];unfold cap40;rw[if_pos b1,if_neg b2])
   go_enter Tryd.func54,Tryd.ntmps54
   go_wp2
   go_loopw [5,6] (fun bv iv wr=> ∃(k:Nat),1<=k/\k<=8/\iv= .int .i64 k/\bv= .int .i64 (nearB gainsL 16384 (c) (1099511627776) k)/\Hid (Below w.heap.size w wr)) (fun _ iv _=>8-(intOf iv).toNat)
   case atStart=>exact⟨1,by omega,by omega,rfl,by simp[nearB],hid (Below.refl _ _)⟩
   case round=>
    obtain⟨k,hk1,hk,rfl,rfl,HB⟩:=hrel
    have nb:=nearB_range gainsL 16384 (c) (1099511627776) k
    have ST:=hid (nearB_step gainsL 16384 (c) (1099511627776) (k:=k) (by omega))
    by_cases hlt:k<8
    ·generalize nearB gainsL 16384 (c) (1099511627776) k=bst at*
     have TW:=TT.out.below HB.out
     have q0:=TW.cell k hlt
     have q1:=TW.cell (k-1) (by show k-1<8;omega)
     have v0:=gainsL_at k
     have v1:=gainsL_at (k-1)
     generalize gainsL.getD k 0=y at*
     generalize gainsL.getD (k-1) 0=x at*
     obtain⟨m,hm⟩: ∃m,m=k-1:=⟨_,rfl⟩
     rw[<-hm] at q1
     have mb:=mul_small (x:=y+x) (X:=131072) (y:=(1099511627776)) (Y:=1099511627776) (by omega) (by omega) (by omega) (by omega)
     have hw0:IntKind.i64.wrap ((k:Int)-1)=(m:Nat):=by rw[IntKind.wrap_i64];omega
     have hw1:IntKind.i64.wrap (y+x)=y+x:=by rw[IntKind.wrap_i64];omega
     have hw2:IntKind.i64.wrap (32768*(c))=32768*(c):=by rw[IntKind.wrap_i64];omega
     have hw3:IntKind.i64.wrap ((y+x)*(1099511627776))=(y+x)*(1099511627776):=by rw[IntKind.wrap_i64];omega
     have i1:(k:Int)<8:=by omega
     have i2:(m:Int)<8:=by omega
     have i3:(0:Int)<=m:=by omega
     have i4:(0:Int)<=k:=by omega
     have HM:=hid hm
     clear hm TW
     by_cases hgt:(y+x)*(1099511627776)<32768*(c)
     ·have HS2:=hid (show nearB gainsL 16384 (c) (1099511627776) (k+1)=k by rw[ST.out,if_pos (by omega)])
      have dd:decide ((y+x)*(1099511627776)<32768*(c))=true:=by simpa using hgt
      clear ST
      go_wp2
      go_quiet (fail)
      clear hw0 hw1 hw2 hw3
      go_wp2
      go_roundw
      case rel=>exact⟨k+1,by omega,by omega,by go_num,by rw[HS2.out],hid (HB.out.trans ((below_drN _ _).mono HB.out.size))⟩
      case measure=>simp[intOf]<;>omega
     ·have HS2:=hid (show nearB gainsL 16384 (c) (1099511627776) (k+1)=bst by rw[ST.out,if_neg (by omega)])
      have dd:decide ((y+x)*(1099511627776)<32768*(c))=false:=by simpa using hgt
      clear ST
      go_wp2
      go_quiet (fail)
      clear hw0 hw1 hw2 hw3
      go_wp2
      go_roundw
      case rel=>exact⟨k+1,by omega,by omega,by go_num,by rw[HS2.out],hid (HB.out.trans ((below_drN _ _).mono HB.out.size))⟩
      case measure=>simp[intOf]<;>omega
    ·obtain rfl:k=8:=by omega
     go_wp2
     go_ret
     exact⟨by rw[FIN.out];rfl,HB.out⟩
 ·have b4:1099511627776<c:=by omega
  by_cases b2:e<=1099511627776
  ·have FIN:=hid (show nearestV c e=nearB gainsL 16384 1099511627776 e 8 by rw[FIN.out];unfold cap40;rw[if_neg b1,if_pos b2])
   go_enter Tryd.func54,Tryd.ntmps54
   go_wp2
   go_loopw [5,6] (fun bv iv wr=> ∃(k:Nat),1<=k/\k<=8/\iv= .int .i64 k/\bv= .int .i64 (nearB gainsL 16384 (1099511627776) (e) k)/\Hid (Below w.heap.size w wr)) (fun _ iv _=>8-(intOf iv).toNat)
   case atStart=>exact⟨1,by omega,by omega,rfl,by simp[nearB],hid (Below.refl _ _)⟩
   case round=>
    obtain⟨k,hk1,hk,rfl,rfl,HB⟩:=hrel
    have nb:=nearB_range gainsL 16384 (1099511627776) (e) k
    have ST:=hid (nearB_step gainsL 16384 (1099511627776) (e) (k:=k) (by omega))
    by_cases hlt:k<8
    ·generalize nearB gainsL 16384 (1099511627776) (e) k=bst at*
     have TW:=TT.out.below HB.out
     have q0:=TW.cell k hlt
     have q1:=TW.cell (k-1) (by show k-1<8;omega)
     have v0:=gainsL_at k
     have v1:=gainsL_at (k-1)
     generalize gainsL.getD k 0=y at*
     generalize gainsL.getD (k-1) 0=x at*
     obtain⟨m,hm⟩: ∃m,m=k-1:=⟨_,rfl⟩
     rw[<-hm] at q1
     have mb:=mul_small (x:=y+x) (X:=131072) (y:=(e)) (Y:=1099511627776) (by omega) (by omega) (by omega) (by omega)
     have hw0:IntKind.i64.wrap ((k:Int)-1)=(m:Nat):=by rw[IntKind.wrap_i64];omega
     have hw1:IntKind.i64.wrap (y+x)=y+x:=by rw[IntKind.wrap_i64];omega
     have hw2:IntKind.i64.wrap (32768*(1099511627776))=32768*(1099511627776):=by rw[IntKind.wrap_i64];omega
     have hw3:IntKind.i64.wrap ((y+x)*(e))=(y+x)*(e):=by rw[IntKind.wrap_i64];omega
     have i1:(k:Int)<8:=by omega
     have i2:(m:Int)<8:=by omega
     have i3:(0:Int)<=m:=by omega
     have i4:(0:Int)<=k:=by omega
     have HM:=hid hm
     clear hm TW
     by_cases hgt:(y+x)*(e)<32768*(1099511627776)
     ·have HS2:=hid (show nearB gainsL 16384 (1099511627776) (e) (k+1)=k by rw[ST.out,if_pos (by omega)])
      have dd:decide ((y+x)*(e)<32768*(1099511627776))=true:=by simpa using hgt
      clear ST
      go_wp2
      go_quiet (fail)
      clear hw0 hw1 hw2 hw3
      go_wp2
      go_roundw
      case rel=>exact⟨k+1,by omega,by omega,by go_num,by rw[HS2.out],hid (HB.out.trans ((below_drN _ _).mono HB.out.size))⟩
      case measure=>simp[intOf]<;>omega
     ·have HS2:=hid (show nearB gainsL 16384 (1099511627776) (e) (k+1)=bst by rw[ST.out,if_neg (by omega)])
      have dd:decide ((y+x)*(e)<32768*(1099511627776))=false:=by simpa using hgt
      clear ST
      go_wp2
      go_quiet (fail)
      clear hw0 hw1 hw2 hw3
      go_wp2
      go_roundw
      case rel=>exact⟨k+1,by omega,by omega,by go_num,by rw[HS2.out],hid (HB.out.trans ((below_drN _ _).mono HB.out.size))⟩
      case measure=>simp[intOf]<;>omega
    ·obtain rfl:k=8:=by omega
     go_wp2
     go_ret
     exact⟨by rw[FIN.out];rfl,HB.out⟩
  ·have b3:1099511627776<e:=by omega
   have FIN:=hid (show nearestV c e=nearB gainsL 16384 1099511627776 1099511627776 8 by rw[FIN.out];unfold cap40;rw[if_neg b1,if_neg b2])
   go_enter Tryd.func54,Tryd.ntmps54
   go_wp2
   go_loopw [5,6] (fun bv iv wr=> ∃(k:Nat),1<=k/\k<=8/\iv= .int .i64 k/\bv= .int .i64 (nearB gainsL 16384 (1099511627776) (1099511627776) k)/\Hid (Below w.heap.size w wr)) (fun _ iv _=>8-(intOf iv).toNat)
   case atStart=>exact⟨1,by omega,by omega,rfl,by simp[nearB],hid (Below.refl _ _)⟩
   case round=>
    obtain⟨k,hk1,hk,rfl,rfl,HB⟩:=hrel
    have nb:=nearB_range gainsL 16384 (1099511627776) (1099511627776) k
    have ST:=hid (nearB_step gainsL 16384 (1099511627776) (1099511627776) (k:=k) (by omega))
    by_cases hlt:k<8
    ·generalize nearB gainsL 16384 (1099511627776) (1099511627776) k=bst at*
     have TW:=TT.out.below HB.out
     have q0:=TW.cell k hlt
     have q1:=TW.cell (k-1) (by show k-1<8;omega)
     have v0:=gainsL_at k
     have v1:=gainsL_at (k-1)
     generalize gainsL.getD k 0=y at*
     generalize gainsL.getD (k-1) 0=x at*
     obtain⟨m,hm⟩: ∃m,m=k-1:=⟨_,rfl⟩
     rw[<-hm] at q1
     have mb:=mul_small (x:=y+x) (X:=131072) (y:=(1099511627776)) (Y:=1099511627776) (by omega) (by omega) (by omega) (by omega)
     have hw0:IntKind.i64.wrap ((k:Int)-1)=(m:Nat):=by rw[IntKind.wrap_i64];omega
     have hw1:IntKind.i64.wrap (y+x)=y+x:=by rw[IntKind.wrap_i64];omega
     have hw2:IntKind.i64.wrap (32768*(1099511627776))=32768*(1099511627776):=by rw[IntKind.wrap_i64];omega
     have hw3:IntKind.i64.wrap ((y+x)*(1099511627776))=(y+x)*(1099511627776):=by rw[IntKind.wrap_i64];omega
     have i1:(k:Int)<8:=by omega
     have i2:(m:Int)<8:=by omega
     have i3:(0:Int)<=m:=by omega
     have i4:(0:Int)<=k:=by omega
     have HM:=hid hm
     clear hm TW
     by_cases hgt:(y+x)*(1099511627776)<32768*(1099511627776)
     ·have HS2:=hid (show nearB gainsL 16384 (1099511627776) (1099511627776) (k+1)=k by rw[ST.out,if_pos (by omega)])
      have dd:decide ((y+x)*(1099511627776)<32768*(1099511627776))=true:=by simpa using hgt
      clear ST
      go_wp2
      go_quiet (fail)
      clear hw0 hw1 hw2 hw3
      go_wp2
      go_roundw
      case rel=>exact⟨k+1,by omega,by omega,by go_num,by rw[HS2.out],hid (HB.out.trans ((below_drN _ _).mono HB.out.size))⟩
      case measure=>simp[intOf]<;>omega
     ·have HS2:=hid (show nearB gainsL 16384 (1099511627776) (1099511627776) (k+1)=bst by rw[ST.out,if_neg (by omega)])
      have dd:decide ((y+x)*(1099511627776)<32768*(1099511627776))=false:=by simpa using hgt
      clear ST
      go_wp2
      go_quiet (fail)
      clear hw0 hw1 hw2 hw3
      go_wp2
      go_roundw
      case rel=>exact⟨k+1,by omega,by omega,by go_num,by rw[HS2.out],hid (HB.out.trans ((below_drN _ _).mono HB.out.size))⟩
      case measure=>simp[intOf]<;>omega
    ·obtain rfl:k=8:=by omega
     go_wp2
     go_ret
     exact⟨by rw[FIN.out];rfl,HB.out⟩
end Go.Proofs.YthoiikkjjaldnaaDoor
