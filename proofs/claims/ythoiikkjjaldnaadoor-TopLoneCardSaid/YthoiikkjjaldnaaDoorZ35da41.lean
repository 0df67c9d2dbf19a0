/- Texts that the law rests on, laid together: QuantW. -/
import Derived.Test.YthoiikkjjaldnaaDoorZ7e0d48
import Derived.Test.YthoiikkjjaldnaaDoorZa172bc
import Derived.Test.YthoiikkjjaldnaaDoorZ4df1bd
import Derived.Test.YthoiikkjjaldnaaDoorZe4c9da
set_option maxHeartbeats 1000000
namespace Go.Proofs.YthoiikkjjaldnaaDoor
set_option linter.unusedVariables false
set_option linter.unusedSimpArgs false
set_option maxRecDepth 100000
open Go.RowKit
def lvM (i:Int):Int:=2^(widV i).toNat
def lvErr (i n:Int):Int:=if widV i=0 then 4 else if n<0\/lvM i<=n then 2 else 0
def lvPos (m n:Int):Int:=31000-31000*(2*(m-n)-1)*(2*(m-n)-1)/(m*m)
def lvV (i n:Int):Int:=if lvErr i n=0 then(if 2*n<lvM i then-lvPos (lvM i) (lvM i-1-n) else lvPos (lvM i) n) else 0
theorem sq_le (r m:Int) (h1:0<=r) (h2:r<=m) (hm:m<=128):0<=31000*r/\31000*r<=3968000/\0<=31000*r*r/\31000*r*r<=507904000:=by
 have h3:31000*r*r<=3968000*128:=Int.mul_le_mul (by omega) (by omega) h1 (by omega)
 have h4:0<=31000*r*r:=Int.mul_nonneg (by omega) h1
 omega
def LvAns (i n:Int) (w:World) (e:Ending) (w':World):Prop:=e= .returned (.tuple #[.int .i64 (lvV i n),.int .i64 (lvErr i n)])/\w=w'
theorem quantLevel_6 (i n:Int) (w:World) (hw:widV i=6) (K:Calls Tryd.prog 76 #[.int .i64 i] w fun e w'=>e= .returned (.int .i64 (6))/\w=w'):
 Calls Tryd.prog 46 #[.int .i64 i,.int .i64 n] w (LvAns i n w):=by
 have hM:lvM i=64:=by unfold lvM;rw[hw];rfl
 have K:=hid K
 by_cases h1:n<0\/63<n
 ·have hE:lvErr i n=2:=by unfold lvErr;rw[if_neg (by omega),if_pos (by omega)]
  have hV:lvV i n=0:=by unfold lvV;rw[if_neg (by omega)]
  have FIN:LvAns i n w (.returned (.tuple #[.int .i64 0,.int .i64 2])) w:=⟨by rw[hE,hV],rfl⟩
  have FIN:=hid FIN
  clear hw hM hE hV
  rcases h1 with h1|h1
  ·go_enter Tryd.func46,Tryd.ntmps46
   go_wp2_with (go_at_call 76;(with_reducible refine K.out.mono ?_);rintro e w' ⟨rfl,rfl⟩)
   go_ret2
   exact FIN.out
  ·have h2: ¬n<0:=by omega
   go_enter Tryd.func46,Tryd.ntmps46
   go_wp2_with (go_at_call 76;(with_reducible refine K.out.mono ?_);rintro e w' ⟨rfl,rfl⟩)
   go_ret2
   exact FIN.out
 ·have hE:lvErr i n=0:=by unfold lvErr;rw[if_neg (by omega),if_neg (by omega)]
  have l1:0<=n:=by omega
  have l2:n<=63:=by omega
  have l3: ¬n<0:=by omega
  have l4: ¬63<n:=by omega
  by_cases hs:2*n<64
  ·have x1:2*n-63<0:=by omega
   have hV:lvV i n= -lvPos 64 (64-1-n):=by unfold lvV;rw[if_pos hE,hM,if_pos hs]
   have q:=sq_le (64+(2*n-63)) 128 (by omega) (by omega) (by omega)
   obtain⟨q1,q2,q3,q4⟩:=q
   have q5:=Int.ediv_nonneg q3 (show 0<=(64*64:Int) by decide)
   have q6:31000*(64+(2*n-63))*(64+(2*n-63))/(64*64)<=507904000:=by omega
   have hP:lvPos 64 (64-1-n)=31000-31000*(64+(2*n-63))*(64+(2*n-63))/(64*64):=by
    unfold lvPos
    rw[show 2*((64:Int)-(64-1-n))-1=64+(2*n-63) by omega]
   have FIN:LvAns i n w (.returned (.tuple #[.int .i64 (-(31000-31000*(64+(2*n-63))*(64+(2*n-63))/(64*64))),.int .i64 0])) w:=⟨by rw[hE,hV,hP],rfl⟩
   have FIN:=hid FIN
   clear hw hM hE hV hP h1 hs
   go_enter Tryd.func46,Tryd.ntmps46
   go_wp2_with (go_at_call 76;(with_reducible refine K.out.mono ?_);rintro e w' ⟨rfl,rfl⟩)
   go_ret2
   exact FIN.out
  ·have x1: ¬2*n-63<0:=by omega
   have hV:lvV i n=lvPos 64 n:=by unfold lvV;rw[if_pos hE,hM,if_neg hs]
   have q:=sq_le (64-(2*n-63)) 128 (by omega) (by omega) (by omega)
   obtain⟨q1,q2,q3,q4⟩:=q
   have q5:=Int.ediv_nonneg q3 (show 0<=(64*64:Int) by decide)
   have q6:31000*(64-(2*n-63))*(64-(2*n-63))/(64*64)<=507904000:=by omega
   have hP:lvPos 64 n=31000-31000*(64-(2*n-63))*(64-(2*n-63))/(64*64):=by
    unfold lvPos
    rw[show 2*((64:Int)-n)-1=64-(2*n-63) by omega]
   have FIN:LvAns i n w (.returned (.tuple #[.int .i64 (31000-31000*(64-(2*n-63))*(64-(2*n-63))/(64*64)),.int .i64 0])) w:=⟨by rw[hE,hV,hP],rfl⟩
   have FIN:=hid FIN
   clear hw hM hE hV hP h1 hs
   go_enter Tryd.func46,Tryd.ntmps46
   go_wp2_with (go_at_call 76;(with_reducible refine K.out.mono ?_);rintro e w' ⟨rfl,rfl⟩)
   go_ret2
   exact FIN.out
theorem quantLevel_5 (i n:Int) (w:World) (hw:widV i=5) (K:Calls Tryd.prog 76 #[.int .i64 i] w fun e w'=>e= .returned (.int .i64 (5))/\w=w'):
 Calls Tryd.prog 46 #[.int .i64 i,.int .i64 n] w (LvAns i n w):=by
 have hM:lvM i=32:=by unfold lvM;rw[hw];rfl
 have K:=hid K
 by_cases h1:n<0\/31<n
 ·have hE:lvErr i n=2:=by unfold lvErr;rw[if_neg (by omega),if_pos (by omega)]
  have hV:lvV i n=0:=by unfold lvV;rw[if_neg (by omega)]
  have FIN:LvAns i n w (.returned (.tuple #[.int .i64 0,.int .i64 2])) w:=⟨by rw[hE,hV],rfl⟩
  have FIN:=hid FIN
  clear hw hM hE hV
  rcases h1 with h1|h1
  ·go_enter Tryd.func46,Tryd.ntmps46
   go_wp2_with (go_at_call 76;(with_reducible refine K.out.mono ?_);rintro e w' ⟨rfl,rfl⟩)
   go_ret2
   exact FIN.out
  ·have h2: ¬n<0:=by omega
   go_enter Tryd.func46,Tryd.ntmps46
   go_wp2_with (go_at_call 76;(with_reducible refine K.out.mono ?_);rintro e w' ⟨rfl,rfl⟩)
   go_ret2
   exact FIN.out
 ·have hE:lvErr i n=0:=by unfold lvErr;rw[if_neg (by omega),if_neg (by omega)]
  have l1:0<=n:=by omega
  have l2:n<=31:=by omega
  have l3: ¬n<0:=by omega
  have l4: ¬31<n:=by omega
  by_cases hs:2*n<32
  ·have x1:2*n-31<0:=by omega
   have hV:lvV i n= -lvPos 32 (32-1-n):=by unfold lvV;rw[if_pos hE,hM,if_pos hs]
   have q:=sq_le (32+(2*n-31)) 128 (by omega) (by omega) (by omega)
   obtain⟨q1,q2,q3,q4⟩:=q
   have q5:=Int.ediv_nonneg q3 (show 0<=(32*32:Int) by decide)
   have q6:31000*(32+(2*n-31))*(32+(2*n-31))/(32*32)<=507904000:=by omega
   have hP:lvPos 32 (32-1-n)=31000-31000*(32+(2*n-31))*(32+(2*n-31))/(32*32):=by
    unfold lvPos
    rw[show 2*((32:Int)-(32-1-n))-1=32+(2*n-31) by omega]
   have FIN:LvAns i n w (.returned (.tuple #[.int .i64 (-(31000-31000*(32+(2*n-31))*(32+(2*n-31))/(32*32))),.int .i64 0])) w:=⟨by rw[hE,hV,hP],rfl⟩
   have FIN:=hid FIN
   clear hw hM hE hV hP h1 hs
   go_enter Tryd.func46,Tryd.ntmps46
   go_wp2_with (go_at_call 76;(with_reducible refine K.out.mono ?_);rintro e w' ⟨rfl,rfl⟩)
   go_ret2
   exact FIN.out
  ·have x1: ¬2*n-31<0:=by omega
   have hV:lvV i n=lvPos 32 n:=by unfold lvV;rw[if_pos hE,hM,if_neg hs]
   have q:=sq_le (32-(2*n-31)) 128 (by omega) (by omega) (by omega)
   obtain⟨q1,q2,q3,q4⟩:=q
   have q5:=Int.ediv_nonneg q3 (show 0<=(32*32:Int) by decide)
   have q6:31000*(32-(2*n-31))*(32-(2*n-31))/(32*32)<=507904000:=by omega
   have hP:lvPos 32 n=31000-31000*(32-(2*n-31))*(32-(2*n-31))/(32*32):=by
    unfold lvPos
    rw[show 2*((32:Int)-n)-1=32-(2*n-31) by omega]
   have FIN:LvAns i n w (.returned (.tuple #[.int .i64 (31000-31000*(32-(2*n-31))*(32-(2*n-31))/(32*32)),.int .i64 0])) w:=⟨by rw[hE,hV,hP],rfl⟩
   have FIN:=hid FIN
   clear hw hM hE hV hP h1 hs
   go_enter Tryd.func46,Tryd.ntmps46
   go_wp2_with (go_at_call 76;(with_reducible refine K.out.mono ?_);rintro e w' ⟨rfl,rfl⟩)
   go_ret2
   exact FIN.out
theorem quantLevel_4 (i n:Int) (w:World) (hw:widV i=4) (K:Calls Tryd.prog 76 #[.int .i64 i] w fun e w'=>e= .returned (.int .i64 (4))/\w=w'):
 Calls Tryd.prog 46 #[.int .i64 i,.int .i64 n] w (LvAns i n w):=by
 have hM:lvM i=16:=by unfold lvM;rw[hw];rfl
 have K:=hid K
 by_cases h1:n<0\/15<n
 ·have hE:lvErr i n=2:=by unfold lvErr;rw[if_neg (by omega),if_pos (by omega)]
  have hV:lvV i n=0:=by unfold lvV;rw[if_neg (by omega)]
  have FIN:LvAns i n w (.returned (.tuple #[.int .i64 0,.int .i64 2])) w:=⟨by rw[hE,hV],rfl⟩
  have FIN:=hid FIN
  clear hw hM hE hV
  rcases h1 with h1|h1
  ·go_enter Tryd.func46,Tryd.ntmps46
   go_wp2_with (go_at_call 76;(with_reducible refine K.out.mono ?_);rintro e w' ⟨rfl,rfl⟩)
   go_ret2
   exact FIN.out
  ·have h2: ¬n<0:=by omega
   go_enter Tryd.func46,Tryd.ntmps46
   go_wp2_with (go_at_call 76;(with_reducible refine K.out.mono ?_);rintro e w' ⟨rfl,rfl⟩)
   go_ret2
   exact FIN.out
 ·have hE:lvErr i n=0:=by unfold lvErr;rw[if_neg (by omega),if_neg (by omega)]
  have l1:0<=n:=by omega
  have l2:n<=15:=by omega
  have l3: ¬n<0:=by omega
  have l4: ¬15<n:=by omega
  by_cases hs:2*n<16
  ·have x1:2*n-15<0:=by omega
   have hV:lvV i n= -lvPos 16 (16-1-n):=by unfold lvV;rw[if_pos hE,hM,if_pos hs]
   have q:=sq_le (16+(2*n-15)) 128 (by omega) (by omega) (by omega)
   obtain⟨q1,q2,q3,q4⟩:=q
   have q5:=Int.ediv_nonneg q3 (show 0<=(16*16:Int) by decide)
   have q6:31000*(16+(2*n-15))*(16+(2*n-15))/(16*16)<=507904000:=by omega
   have hP:lvPos 16 (16-1-n)=31000-31000*(16+(2*n-15))*(16+(2*n-15))/(16*16):=by
    unfold lvPos
    rw[show 2*((16:Int)-(16-1-n))-1=16+(2*n-15) by omega]
   have FIN:LvAns i n w (.returned (.tuple #[.int .i64 (-(31000-31000*(16+(2*n-15))*(16+(2*n-15))/(16*16))),.int .i64 0])) w:=⟨by rw[hE,hV,hP],rfl⟩
   have FIN:=hid FIN
   clear hw hM hE hV hP h1 hs
   go_enter Tryd.func46,Tryd.ntmps46
   go_wp2_with (go_at_call 76;(with_reducible refine K.out.mono ?_);rintro e w' ⟨rfl,rfl⟩)
   go_ret2
   exact FIN.out
  ·have x1: ¬2*n-15<0:=by omega
   have hV:lvV i n=lvPos 16 n:=by unfold lvV;rw[if_pos hE,hM,if_neg hs]
   have q:=sq_le (16-(2*n-15)) 128 (by omega) (by omega) (by omega)
   obtain⟨q1,q2,q3,q4⟩:=q
   have q5:=Int.ediv_nonneg q3 (show 0<=(16*16:Int) by decide)
   have q6:31000*(16-(2*n-15))*(16-(2*n-15))/(16*16)<=507904000:=by omega
   have hP:lvPos 16 n=31000-31000*(16-(2*n-15))*(16-(2*n-15))/(16*16):=by
    unfold lvPos
    rw[show 2*((16:Int)-n)-1=16-(2*n-15) by omega]
   have FIN:LvAns i n w (.returned (.tuple #[.int .i64 (31000-31000*(16-(2*n-15))*(16-(2*n-15))/(16*16)),.int .i64 0])) w:=⟨by rw[hE,hV,hP],rfl⟩
   have FIN:=hid FIN
   clear hw hM hE hV hP h1 hs
   go_enter Tryd.func46,Tryd.ntmps46
   go_wp2_with (go_at_call 76;(with_reducible refine K.out.mono ?_);rintro e w' ⟨rfl,rfl⟩)
   go_ret2
   exact FIN.out
theorem quantLevel_3 (i n:Int) (w:World) (hw:widV i=3) (K:Calls Tryd.prog 76 #[.int .i64 i] w fun e w'=>e= .returned (.int .i64 (3))/\w=w'):
 Calls Tryd.prog 46 #[.int .i64 i,.int .i64 n] w (LvAns i n w):=by
 have hM:lvM i=8:=by unfold lvM;rw[hw];rfl
 have K:=hid K
 by_cases h1:n<0\/7<n
 ·have hE:lvErr i n=2:=by unfold lvErr;rw[if_neg (by omega),if_pos (by omega)]
  have hV:lvV i n=0:=by unfold lvV;rw[if_neg (by omega)]
  have FIN:LvAns i n w (.returned (.tuple #[.int .i64 0,.int .i64 2])) w:=⟨by rw[hE,hV],rfl⟩
  have FIN:=hid FIN
  clear hw hM hE hV
  rcases h1 with h1|h1
  ·go_enter Tryd.func46,Tryd.ntmps46
   go_wp2_with (go_at_call 76;(with_reducible refine K.out.mono ?_);rintro e w' ⟨rfl,rfl⟩)
   go_ret2
   exact FIN.out
  ·have h2: ¬n<0:=by omega
   go_enter Tryd.func46,Tryd.ntmps46
   go_wp2_with (go_at_call 76;(with_reducible refine K.out.mono ?_);rintro e w' ⟨rfl,rfl⟩)
   go_ret2
   exact FIN.out
 ·have hE:lvErr i n=0:=by unfold lvErr;rw[if_neg (by omega),if_neg (by omega)]
  have l1:0<=n:=by omega
  have l2:n<=7:=by omega
  have l3: ¬n<0:=by omega
  have l4: ¬7<n:=by omega
  by_cases hs:2*n<8
  ·have x1:2*n-7<0:=by omega
   have hV:lvV i n= -lvPos 8 (8-1-n):=by unfold lvV;rw[if_pos hE,hM,if_pos hs]
   have q:=sq_le (8+(2*n-7)) 128 (by omega) (by omega) (by omega)
   obtain⟨q1,q2,q3,q4⟩:=q
   have q5:=Int.ediv_nonneg q3 (show 0<=(8*8:Int) by decide)
   have q6:31000*(8+(2*n-7))*(8+(2*n-7))/(8*8)<=507904000:=by omega
   have hP:lvPos 8 (8-1-n)=31000-31000*(8+(2*n-7))*(8+(2*n-7))/(8*8):=by
    unfold lvPos
    rw[show 2*((8:Int)-(8-1-n))-1=8+(2*n-7) by omega]
   have FIN:LvAns i n w (.returned (.tuple #[.int .i64 (-(31000-31000*(8+(2*n-7))*(8+(2*n-7))/(8*8))),.int .i64 0])) w:=⟨by rw[hE,hV,hP],rfl⟩
   have FIN:=hid FIN
   clear hw hM hE hV hP h1 hs
   go_enter Tryd.func46,Tryd.ntmps46
   go_wp2_with (go_at_call 76;(with_reducible refine K.out.mono ?_);rintro e w' ⟨rfl,rfl⟩)
   go_ret2
   exact FIN.out
  ·have x1: ¬2*n-7<0:=by omega
   have hV:lvV i n=lvPos 8 n:=by unfold lvV;rw[if_pos hE,hM,if_neg hs]
   have q:=sq_le (8-(2*n-7)) 128 (by omega) (by omega) (by omega)
   obtain⟨q1,q2,q3,q4⟩:=q
   have q5:=Int.ediv_nonneg q3 (show 0<=(8*8:Int) by decide)
   have q6:31000*(8-(2*n-7))*(8-(2*n-7))/(8*8)<=507904000:=by omega
   have hP:lvPos 8 n=31000-31000*(8-(2*n-7))*(8-(2*n-7))/(8*8):=by
    unfold lvPos
    rw[show 2*((8:Int)-n)-1=8-(2*n-7) by omega]
   have FIN:LvAns i n w (.returned (.tuple #[.int .i64 (31000-31000*(8-(2*n-7))*(8-(2*n-7))/(8*8)),.int .i64 0])) w:=⟨by rw[hE,hV,hP],rfl⟩
   have FIN:=hid FIN
   clear hw hM hE hV hP h1 hs
   go_enter Tryd.func46,Tryd.ntmps46
   go_wp2_with (go_at_call 76;(with_reducible refine K.out.mono ?_);rintro e w' ⟨rfl,rfl⟩)
   go_ret2
   exact FIN.out
theorem lvErr_out {i n:Int} (h:widV i=0):lvErr i n=4:=by unfold lvErr;rw[if_pos h]
theorem lvV_out {i n:Int} (h:widV i=0):lvV i n=0:=by unfold lvV;rw[lvErr_out h];rfl
theorem quantLevel_0 (i n:Int) (w:World) (hw:widV i=0) (K:Calls Tryd.prog 76 #[.int .i64 i] w fun e w'=>e= .returned (.int .i64 0)/\w=w'):
 Calls Tryd.prog 46 #[.int .i64 i,.int .i64 n] w (LvAns i n w):=by
 have FIN:LvAns i n w (.returned (.tuple #[.int .i64 0,.int .i64 4])) w:=⟨by rw[lvErr_out hw,lvV_out hw],rfl⟩
 have FIN:=hid FIN
 have K:=hid K
 clear hw
 go_enter Tryd.func46,Tryd.ntmps46
 go_wp2_with (go_at_call 76;(with_reducible refine K.out.mono ?_);rintro e w' ⟨rfl,rfl⟩)
 go_ret2
 exact FIN.out
theorem quantLevel_any (i n:Int) (w:World) (T:TabA w 1 widthL):
 Calls Tryd.prog 46 #[.int .i64 i,.int .i64 n] w (LvAns i n w):=by
 have K:=quantWidth_any i w T
 rcases widV_cases i with⟨h,_⟩|⟨h,_⟩|⟨h,_⟩|⟨h,_⟩|⟨h,_⟩
 ·rw[h] at K;exact quantLevel_0 i n w h K
 ·rw[h] at K;exact quantLevel_6 i n w h K
 ·rw[h] at K;exact quantLevel_5 i n w h K
 ·rw[h] at K;exact quantLevel_4 i n w h K
 ·rw[h] at K;exact quantLevel_3 i n w h K
end Go.Proofs.YthoiikkjjaldnaaDoor
