/- Texts that the law rests on, laid together: QuantO. -/
import Derived.Test.YthoiikkjjaldnaaDoorZ35da41
import Derived.Test.YthoiikkjjaldnaaDoorZbe9dc0
import Derived.Test.YthoiikkjjaldnaaDoorZd03041
import Derived.BigQuiet
import Derived.Deep.QuietTactic
set_option maxHeartbeats 2000000
namespace Go.Proofs.YthoiikkjjaldnaaDoor
set_option linter.unusedVariables false
set_option linter.unusedSimpArgs false
set_option maxRecDepth 100000
open Go.RowKit
def qD (i k:Int) (n:Nat):Int:=if lvV i n-k<0 then-(lvV i n-k) else lvV i n-k
def qB (i k:Int):Nat->Int×Int
 |0=>(0,1048576)
 |n+1=>if qD i k n<(qB i k n).2 then((n:Int),qD i k n) else qB i k n
def qErr (i k:Int):Int:=if widV i=0 then 4 else if k< -32768\/32768<k then 2 else 0
def qV (i k:Int):Int:=if qErr i k=0 then(qB i k (lvM i).toNat).1 else 0
theorem lvPos_range (m:Int) (hm:m=8\/m=16\/m=32\/m=64) (n:Int) (h1:0<=n) (h2:n<m) (h3:m<=2*n): -31000<=lvPos m n/\lvPos m n<=31000:=by
 obtain⟨k,rfl⟩:=Int.eq_ofNat_of_zero_le h1
 rcases hm with rfl|rfl|rfl|rfl
 ·exact(show∀k:Nat,k<8->8<=2*k-> -31000<=lvPos 8 (k:Nat)/\lvPos 8 (k:Nat)<=31000 by decide+kernel) k (by omega) (by omega)
 ·exact(show∀k:Nat,k<16->16<=2*k-> -31000<=lvPos 16 (k:Nat)/\lvPos 16 (k:Nat)<=31000 by decide+kernel) k (by omega) (by omega)
 ·exact(show∀k:Nat,k<32->32<=2*k-> -31000<=lvPos 32 (k:Nat)/\lvPos 32 (k:Nat)<=31000 by decide+kernel) k (by omega) (by omega)
 ·exact(show∀k:Nat,k<64->64<=2*k-> -31000<=lvPos 64 (k:Nat)/\lvPos 64 (k:Nat)<=31000 by decide+kernel) k (by omega) (by omega)
theorem lvM_cases {i:Int} (h:widV i≠0):lvM i=8\/lvM i=16\/lvM i=32\/lvM i=64:=by
 unfold lvM
 rcases widV_cases i with⟨e,_⟩|⟨e,_⟩|⟨e,_⟩|⟨e,_⟩|⟨e,_⟩
 ·exact absurd e h
 all_goals rw[e];decide
theorem lvV_range (i n:Int): -31000<=lvV i n/\lvV i n<=31000:=by
 unfold lvV
 split
 ·rename_i h0
  unfold lvErr at h0
  split at h0
  ·omega
  ·rename_i hw
   split at h0
   ·omega
   ·have hm:=lvM_cases hw
    split
    ·have:=lvPos_range (lvM i) hm (lvM i-1-n) (by omega) (by omega) (by omega)
     omega
    ·exact lvPos_range (lvM i) hm n (by omega) (by omega) (by omega)
 ·omega
theorem qD_range {i k:Int} (h1: -32768<=k) (h2:k<=32768) (n:Nat):0<=qD i k n/\qD i k n<=63768:=by
 have:=lvV_range i n
 unfold qD
 split<;>omega
theorem qB_range {i k:Int} (h1: -32768<=k) (h2:k<=32768) (n:Nat):(0<=(qB i k n).1/\(qB i k n).1<=n)/\0<=(qB i k n).2/\(qB i k n).2<=1048576:=by
 induction n with
 |zero=>simp[qB]
 |succ n ih=>
  have:=qD_range (i:=i) h1 h2 n
  unfold qB
  split
  ·simp only;omega
  ·omega
theorem qB_step {i k:Int} (n:Nat):qB i k (n+1)=if qD i k n<(qB i k n).2 then((n:Int),qD i k n) else qB i k n:=rfl
def OneAns (i k:Int) (w:World) (e:Ending) (w':World):Prop:=e= .returned (.tuple #[.int .i64 (qV i k),.int .i64 (qErr i k)])/\w=w'
theorem quantOne_6 (i k:Int) (w:World) (hw:widV i=6) (k1: -32768<=k) (k2:k<=32768) (KW:Calls Tryd.prog 76 #[.int .i64 i] w fun e w'=>e= .returned (.int .i64 (6))/\w=w') (KL: ∀n,Calls Tryd.prog 46 #[.int .i64 i,.int .i64 n] w (LvAns i n w)):
 Calls Tryd.prog 45 #[.int .i64 i,.int .i64 k] w (OneAns i k w):=by
 have hM:lvM i=64:=by unfold lvM;rw[hw];rfl
 have hE:qErr i k=0:=by unfold qErr;rw[if_neg (by omega),if_neg (by omega)]
 have FIN:=hid (show OneAns i k w (.returned (.tuple #[.int .i64 (qB i k 64).1,.int .i64 0])) w from⟨by rw[hE];unfold qV;rw[if_pos hE,hM];rfl,rfl⟩)
 have KW':=hid KW
 have KL':=hid KL
 have l1: ¬k< -32768:=by omega
 have l2: ¬32768<k:=by omega
 clear hw hM hE KW KL
 go_enter Tryd.func45,Tryd.ntmps45
 go_wp2_with (go_at_call 76;(with_reducible refine KW'.out.mono ?_);rintro e w' ⟨rfl,rfl⟩)
 go_loop [7,8,26] (fun bv dv iv=> ∃(n:Nat),n<=64/\iv= .int .i64 n/\bv= .int .i64 (qB i k n).1/\dv= .int .i64 (qB i k n).2) (fun _ _ iv=>64-(intOf iv).toNat)
 case atStart=>exact⟨0,by omega,rfl,rfl,rfl⟩
 case round=>
  obtain⟨n,hn,rfl,rfl,rfl⟩:=hrel
  by_cases hlt:n<64
  ·have KK:=KL'.out (n:Nat)
   unfold LvAns at KK
   have KK':=hid KK
   have rg:=lvV_range i n
   have qr:=qB_range (i:=i) k1 k2 n
   have HS:=hid (qB_step (i:=i) (k:=k) n)
   unfold qD at HS
   obtain⟨b,hb⟩: ∃b,b=(qB i k n).1:=⟨_,rfl⟩
   obtain⟨d,hd⟩: ∃d,d=(qB i k n).2:=⟨_,rfl⟩
   rw[<-hb,<-hd] at qr
   rw[<-hd] at HS
   have HB1:=hid hb
   have HB2:=hid hd
   rw[<-hb,<-hd]
   clear hb hd
   generalize lvV i (n:Nat)=v at*
   generalize lvErr i (n:Nat)=er at*
   have i1:(n:Int)<64:=by omega
   clear KK
   obtain⟨⟨r1,r2⟩,r3,r4⟩:=qr
   obtain⟨v1,v2⟩:=rg
   by_cases hd:v-k<0
   ·by_cases hc: -(v-k)<d
    ·have HS2:=hid (show qB i k (n+1)=((n:Int),-(v-k)) by rw[HS.out,if_pos hd,if_pos hc])
     clear HS
     go_wp2_with (go_at_call 46;(with_reducible refine KK'.out.mono ?_);rintro e w' ⟨rfl,rfl⟩)
     go_round
     case rel=>exact⟨n+1,by omega,by go_num,by rw[HS2.out],by rw[HS2.out]⟩
     case measure=>simp[intOf]<;>omega
    ·have HS2:=hid (show qB i k (n+1)=qB i k n by rw[HS.out,if_pos hd,if_neg hc])
     clear HS
     go_wp2_with (go_at_call 46;(with_reducible refine KK'.out.mono ?_);rintro e w' ⟨rfl,rfl⟩)
     go_round
     case rel=>exact⟨n+1,by omega,by go_num,by rw[HS2.out];exact congrArg _ HB1.out,by rw[HS2.out];exact congrArg _ HB2.out⟩
     case measure=>simp[intOf]<;>omega
   ·by_cases hc:v-k<d
    ·have HS2:=hid (show qB i k (n+1)=((n:Int),v-k) by rw[HS.out,if_neg hd,if_pos hc])
     clear HS
     go_wp2_with (go_at_call 46;(with_reducible refine KK'.out.mono ?_);rintro e w' ⟨rfl,rfl⟩)
     go_round
     case rel=>exact⟨n+1,by omega,by go_num,by rw[HS2.out],by rw[HS2.out]⟩
     case measure=>simp[intOf]<;>omega
    ·have HS2:=hid (show qB i k (n+1)=qB i k n by rw[HS.out,if_neg hd,if_neg hc])
     clear HS
     go_wp2_with (go_at_call 46;(with_reducible refine KK'.out.mono ?_);rintro e w' ⟨rfl,rfl⟩)
     go_round
     case rel=>exact⟨n+1,by omega,by go_num,by rw[HS2.out];exact congrArg _ HB1.out,by rw[HS2.out];exact congrArg _ HB2.out⟩
     case measure=>simp[intOf]<;>omega
  ·obtain rfl:n=64:=by omega
   go_wp2
   go_ret2
   exact FIN.out
theorem quantOne_5 (i k:Int) (w:World) (hw:widV i=5) (k1: -32768<=k) (k2:k<=32768) (KW:Calls Tryd.prog 76 #[.int .i64 i] w fun e w'=>e= .returned (.int .i64 (5))/\w=w') (KL: ∀n,Calls Tryd.prog 46 #[.int .i64 i,.int .i64 n] w (LvAns i n w)):
 Calls Tryd.prog 45 #[.int .i64 i,.int .i64 k] w (OneAns i k w):=by
 have hM:lvM i=32:=by unfold lvM;rw[hw];rfl
 have hE:qErr i k=0:=by unfold qErr;rw[if_neg (by omega),if_neg (by omega)]
 have FIN:=hid (show OneAns i k w (.returned (.tuple #[.int .i64 (qB i k 32).1,.int .i64 0])) w from⟨by rw[hE];unfold qV;rw[if_pos hE,hM];rfl,rfl⟩)
 have KW':=hid KW
 have KL':=hid KL
 have l1: ¬k< -32768:=by omega
 have l2: ¬32768<k:=by omega
 clear hw hM hE KW KL
 go_enter Tryd.func45,Tryd.ntmps45
 go_wp2_with (go_at_call 76;(with_reducible refine KW'.out.mono ?_);rintro e w' ⟨rfl,rfl⟩)
 go_loop [7,8,26] (fun bv dv iv=> ∃(n:Nat),n<=32/\iv= .int .i64 n/\bv= .int .i64 (qB i k n).1/\dv= .int .i64 (qB i k n).2) (fun _ _ iv=>32-(intOf iv).toNat)
 case atStart=>exact⟨0,by omega,rfl,rfl,rfl⟩
 case round=>
  obtain⟨n,hn,rfl,rfl,rfl⟩:=hrel
  by_cases hlt:n<32
  ·have KK:=KL'.out (n:Nat)
   unfold LvAns at KK
   have KK':=hid KK
   have rg:=lvV_range i n
   have qr:=qB_range (i:=i) k1 k2 n
   have HS:=hid (qB_step (i:=i) (k:=k) n)
   unfold qD at HS
   obtain⟨b,hb⟩: ∃b,b=(qB i k n).1:=⟨_,rfl⟩
   obtain⟨d,hd⟩: ∃d,d=(qB i k n).2:=⟨_,rfl⟩
   rw[<-hb,<-hd] at qr
   rw[<-hd] at HS
   have HB1:=hid hb
   have HB2:=hid hd
   rw[<-hb,<-hd]
   clear hb hd
   generalize lvV i (n:Nat)=v at*
   generalize lvErr i (n:Nat)=er at*
   have i1:(n:Int)<32:=by omega
   clear KK
   obtain⟨⟨r1,r2⟩,r3,r4⟩:=qr
   obtain⟨v1,v2⟩:=rg
   by_cases hd:v-k<0
   ·by_cases hc: -(v-k)<d
    ·have HS2:=hid (show qB i k (n+1)=((n:Int),-(v-k)) by rw[HS.out,if_pos hd,if_pos hc])
     clear HS
     go_wp2_with (go_at_call 46;(with_reducible refine KK'.out.mono ?_);rintro e w' ⟨rfl,rfl⟩)
     go_round
     case rel=>exact⟨n+1,by omega,by go_num,by rw[HS2.out],by rw[HS2.out]⟩
     case measure=>simp[intOf]<;>omega
    ·have HS2:=hid (show qB i k (n+1)=qB i k n by rw[HS.out,if_pos hd,if_neg hc])
     clear HS
     go_wp2_with (go_at_call 46;(with_reducible refine KK'.out.mono ?_);rintro e w' ⟨rfl,rfl⟩)
     go_round
     case rel=>exact⟨n+1,by omega,by go_num,by rw[HS2.out];exact congrArg _ HB1.out,by rw[HS2.out];exact congrArg _ HB2.out⟩
     case measure=>simp[intOf]<;>omega
   ·by_cases hc:v-k<d
    ·have HS2:=hid (show qB i k (n+1)=((n:Int),v-k) by rw[HS.out,if_neg hd,if_pos hc])
     clear HS
     go_wp2_with (go_at_call 46;(with_reducible refine KK'.out.mono ?_);rintro e w' ⟨rfl,rfl⟩)
     go_round
     case rel=>exact⟨n+1,by omega,by go_num,by rw[HS2.out],by rw[HS2.out]⟩
     case measure=>simp[intOf]<;>omega
    ·have HS2:=hid (show qB i k (n+1)=qB i k n by rw[HS.out,if_neg hd,if_neg hc])
     clear HS
     go_wp2_with (go_at_call 46;(with_reducible refine KK'.out.mono ?_);rintro e w' ⟨rfl,rfl⟩)
     go_round
     case rel=>exact⟨n+1,by omega,by go_num,by rw[HS2.out];exact congrArg _ HB1.out,by rw[HS2.out];exact congrArg _ HB2.out⟩
     case measure=>simp[intOf]<;>omega
  ·obtain rfl:n=32:=by omega
   go_wp2
   go_ret2
   exact FIN.out
theorem quantOne_4 (i k:Int) (w:World) (hw:widV i=4) (k1: -32768<=k) (k2:k<=32768) (KW:Calls Tryd.prog 76 #[.int .i64 i] w fun e w'=>e= .returned (.int .i64 (4))/\w=w') (KL: ∀n,Calls Tryd.prog 46 #[.int .i64 i,.int .i64 n] w (LvAns i n w)):
 Calls Tryd.prog 45 #[.int .i64 i,.int .i64 k] w (OneAns i k w):=by
 have hM:lvM i=16:=by unfold lvM;rw[hw];rfl
 have hE:qErr i k=0:=by unfold qErr;rw[if_neg (by omega),if_neg (by omega)]
 have FIN:=hid (show OneAns i k w (.returned (.tuple #[.int .i64 (qB i k 16).1,.int .i64 0])) w from⟨by rw[hE];unfold qV;rw[if_pos hE,hM];rfl,rfl⟩)
 have KW':=hid KW
 have KL':=hid KL
 have l1: ¬k< -32768:=by omega
 have l2: ¬32768<k:=by omega
 clear hw hM hE KW KL
 go_enter Tryd.func45,Tryd.ntmps45
 go_wp2_with (go_at_call 76;(with_reducible refine KW'.out.mono ?_);rintro e w' ⟨rfl,rfl⟩)
 go_loop [7,8,26] (fun bv dv iv=> ∃(n:Nat),n<=16/\iv= .int .i64 n/\bv= .int .i64 (qB i k n).1/\dv= .int .i64 (qB i k n).2) (fun _ _ iv=>16-(intOf iv).toNat)
 case atStart=>exact⟨0,by omega,rfl,rfl,rfl⟩
 case round=>
  obtain⟨n,hn,rfl,rfl,rfl⟩:=hrel
  by_cases hlt:n<16
  ·have KK:=KL'.out (n:Nat)
   unfold LvAns at KK
   have KK':=hid KK
   have rg:=lvV_range i n
   have qr:=qB_range (i:=i) k1 k2 n
   have HS:=hid (qB_step (i:=i) (k:=k) n)
   unfold qD at HS
   obtain⟨b,hb⟩: ∃b,b=(qB i k n).1:=⟨_,rfl⟩
   obtain⟨d,hd⟩: ∃d,d=(qB i k n).2:=⟨_,rfl⟩
   rw[<-hb,<-hd] at qr
   rw[<-hd] at HS
   have HB1:=hid hb
   have HB2:=hid hd
   rw[<-hb,<-hd]
   clear hb hd
   generalize lvV i (n:Nat)=v at*
   generalize lvErr i (n:Nat)=er at*
   have i1:(n:Int)<16:=by omega
   clear KK
   obtain⟨⟨r1,r2⟩,r3,r4⟩:=qr
   obtain⟨v1,v2⟩:=rg
   by_cases hd:v-k<0
   ·by_cases hc: -(v-k)<d
    ·have HS2:=hid (show qB i k (n+1)=((n:Int),-(v-k)) by rw[HS.out,if_pos hd,if_pos hc])
     clear HS
     go_wp2_with (go_at_call 46;(with_reducible refine KK'.out.mono ?_);rintro e w' ⟨rfl,rfl⟩)
     go_round
     case rel=>exact⟨n+1,by omega,by go_num,by rw[HS2.out],by rw[HS2.out]⟩
     case measure=>simp[intOf]<;>omega
    ·have HS2:=hid (show qB i k (n+1)=qB i k n by rw[HS.out,if_pos hd,if_neg hc])
     clear HS
     go_wp2_with (go_at_call 46;(with_reducible refine KK'.out.mono ?_);rintro e w' ⟨rfl,rfl⟩)
     go_round
     case rel=>exact⟨n+1,by omega,by go_num,by rw[HS2.out];exact congrArg _ HB1.out,by rw[HS2.out];exact congrArg _ HB2.out⟩
     case measure=>simp[intOf]<;>omega
   ·by_cases hc:v-k<d
    ·have HS2:=hid (show qB i k (n+1)=((n:Int),v-k) by rw[HS.out,if_neg hd,if_pos hc])
     clear HS
     go_wp2_with (go_at_call 46;(with_reducible refine KK'.out.mono ?_);rintro e w' ⟨rfl,rfl⟩)
     go_round
     case rel=>exact⟨n+1,by omega,by go_num,by rw[HS2.out],by rw[HS2.out]⟩
     case measure=>simp[intOf]<;>omega
    ·have HS2:=hid (show qB i k (n+1)=qB i k n by rw[HS.out,if_neg hd,if_neg hc])
     clear HS
     go_wp2_with (go_at_call 46;(with_reducible refine KK'.out.mono ?_);rintro e w' ⟨rfl,rfl⟩)
     go_round
     case rel=>exact⟨n+1,by omega,by go_num,by rw[HS2.out];exact congrArg _ HB1.out,by rw[HS2.out];exact congrArg _ HB2.out⟩
     case measure=>simp[intOf]<;>omega
  ·obtain rfl:n=16:=by omega
   go_wp2
   go_ret2
   exact FIN.out
theorem quantOne_3 (i k:Int) (w:World) (hw:widV i=3) (k1: -32768<=k) (k2:k<=32768) (KW:Calls Tryd.prog 76 #[.int .i64 i] w fun e w'=>e= .returned (.int .i64 (3))/\w=w') (KL: ∀n,Calls Tryd.prog 46 #[.int .i64 i,.int .i64 n] w (LvAns i n w)):
 Calls Tryd.prog 45 #[.int .i64 i,.int .i64 k] w (OneAns i k w):=by
 have hM:lvM i=8:=by unfold lvM;rw[hw];rfl
 have hE:qErr i k=0:=by unfold qErr;rw[if_neg (by omega),if_neg (by omega)]
 have FIN:=hid (show OneAns i k w (.returned (.tuple #[.int .i64 (qB i k 8).1,.int .i64 0])) w from⟨by rw[hE];unfold qV;rw[if_pos hE,hM];rfl,rfl⟩)
 have KW':=hid KW
 have KL':=hid KL
 have l1: ¬k< -32768:=by omega
 have l2: ¬32768<k:=by omega
 clear hw hM hE KW KL
 go_enter Tryd.func45,Tryd.ntmps45
 go_wp2_with (go_at_call 76;(with_reducible refine KW'.out.mono ?_);rintro e w' ⟨rfl,rfl⟩)
 go_loop [7,8,26] (fun bv dv iv=> ∃(n:Nat),n<=8/\iv= .int .i64 n/\bv= .int .i64 (qB i k n).1/\dv= .int .i64 (qB i k n).2) (fun _ _ iv=>8-(intOf iv).toNat)
 case atStart=>exact⟨0,by omega,rfl,rfl,rfl⟩
 case round=>
  obtain⟨n,hn,rfl,rfl,rfl⟩:=hrel
  by_cases hlt:n<8
  ·have KK:=KL'.out (n:Nat)
   unfold LvAns at KK
   have KK':=hid KK
   have rg:=lvV_range i n
   have qr:=qB_range (i:=i) k1 k2 n
   have HS:=hid (qB_step (i:=i) (k:=k) n)
   unfold qD at HS
   obtain⟨b,hb⟩: ∃b,b=(qB i k n).1:=⟨_,rfl⟩
   obtain⟨d,hd⟩: ∃d,d=(qB i k n).2:=⟨_,rfl⟩
   rw[<-hb,<-hd] at qr
   rw[<-hd] at HS
   have HB1:=hid hb
   have HB2:=hid hd
   rw[<-hb,<-hd]
   clear hb hd
   generalize lvV i (n:Nat)=v at*
   generalize lvErr i (n:Nat)=er at*
   have i1:(n:Int)<8:=by omega
   clear KK
   obtain⟨⟨r1,r2⟩,r3,r4⟩:=qr
   obtain⟨v1,v2⟩:=rg
   by_cases hd:v-k<0
   ·by_cases hc: -(v-k)<d
    ·have HS2:=hid (show qB i k (n+1)=((n:Int),-(v-k)) by rw[HS.out,if_pos hd,if_pos hc])
     clear HS
     go_wp2_with (go_at_call 46;(with_reducible refine KK'.out.mono ?_);rintro e w' ⟨rfl,rfl⟩)
     go_round
     case rel=>exact⟨n+1,by omega,by go_num,by rw[HS2.out],by rw[HS2.out]⟩
     case measure=>simp[intOf]<;>omega
    ·have HS2:=hid (show qB i k (n+1)=qB i k n by rw[HS.out,if_pos hd,if_neg hc])
     clear HS
     go_wp2_with (go_at_call 46;(with_reducible refine KK'.out.mono ?_);rintro e w' ⟨rfl,rfl⟩)
     go_round
     case rel=>exact⟨n+1,by omega,by go_num,by rw[HS2.out];exact congrArg _ HB1.out,by rw[HS2.out];exact congrArg _ HB2.out⟩
     case measure=>simp[intOf]<;>omega
   ·by_cases hc:v-k<d
    ·have HS2:=hid (show qB i k (n+1)=((n:Int),v-k) by rw[HS.out,if_neg hd,if_pos hc])
     clear HS
     go_wp2_with (go_at_call 46;(with_reducible refine KK'.out.mono ?_);rintro e w' ⟨rfl,rfl⟩)
     go_round
     case rel=>exact⟨n+1,by omega,by go_num,by rw[HS2.out],by rw[HS2.out]⟩
     case measure=>simp[intOf]<;>omega
    ·have HS2:=hid (show qB i k (n+1)=qB i k n by rw[HS.out,if_neg hd,if_neg hc])
     clear HS
     go_wp2_with (go_at_call 46;(with_reducible refine KK'.out.mono ?_);rintro e w' ⟨rfl,rfl⟩)
     go_round
     case rel=>exact⟨n+1,by omega,by go_num,by rw[HS2.out];exact congrArg _ HB1.out,by rw[HS2.out];exact congrArg _ HB2.out⟩
     case measure=>simp[intOf]<;>omega
  ·obtain rfl:n=8:=by omega
   go_wp2
   go_ret2
   exact FIN.out
theorem quantOne_any (i k:Int) (w:World) (T:TabA w 1 widthL):Calls Tryd.prog 45 #[.int .i64 i,.int .i64 k] w (OneAns i k w):=by
 have KW:=quantWidth_any i w T
 have KL:=fun n=>quantLevel_any i n w T
 by_cases h0:widV i=0
 ·have FIN:=hid (show OneAns i k w (.returned (.tuple #[.int .i64 0,.int .i64 4])) w from⟨by rw[show qErr i k=4 by unfold qErr;rw[if_pos h0],show qV i k=0 by unfold qV qErr;rw[if_pos h0];rfl],rfl⟩)
  rw[h0] at KW
  have KW':=hid KW
  clear KW KL h0 T
  go_enter Tryd.func45,Tryd.ntmps45
  go_wp2_with (go_at_call 76;(with_reducible refine KW'.out.mono ?_);rintro e w' ⟨rfl,rfl⟩)
  go_ret2
  exact FIN.out
 by_cases hk:k< -32768\/32768<k
 ·have FIN:=hid (show OneAns i k w (.returned (.tuple #[.int .i64 0,.int .i64 2])) w from⟨by rw[show qErr i k=2 by unfold qErr;rw[if_neg h0,if_pos hk],show qV i k=0 by unfold qV qErr;rw[if_neg h0,if_pos hk];rfl],rfl⟩)
  have KW':=hid KW
  have z1: ¬widV i=0:=h0
  have z2:(widV i==0)=false:=by simpa using h0
  generalize widV i=wv at*
  clear KW KL h0 T
  rcases hk with hk|hk
  ·go_enter Tryd.func45,Tryd.ntmps45
   go_wp2_with (go_at_call 76;(with_reducible refine KW'.out.mono ?_);rintro e w' ⟨rfl,rfl⟩)
   go_ret2
   exact FIN.out
  ·have l1: ¬k< -32768:=by omega
   go_enter Tryd.func45,Tryd.ntmps45
   go_wp2_with (go_at_call 76;(with_reducible refine KW'.out.mono ?_);rintro e w' ⟨rfl,rfl⟩)
   go_ret2
   exact FIN.out
 have k1: -32768<=k:=by omega
 have k2:k<=32768:=by omega
 rcases widV_cases i with⟨h,_⟩|⟨h,_⟩|⟨h,_⟩|⟨h,_⟩|⟨h,_⟩
 ·exact absurd h h0
 ·rw[h] at KW;exact quantOne_6 i k w h k1 k2 KW KL
 ·rw[h] at KW;exact quantOne_5 i k w h k1 k2 KW KL
 ·rw[h] at KW;exact quantOne_4 i k w h k1 k2 KW KL
 ·rw[h] at KW;exact quantOne_3 i k w h k1 k2 KW KL
end Go.Proofs.YthoiikkjjaldnaaDoor
