/- Texts that the law rests on, laid together: PkF. -/
import Derived.Test.YthoiikkjjaldnaaDoorZa172bc
import Derived.Deep.RegionHeld3
set_option maxHeartbeats 4000000
namespace Go.Proofs.YthoiikkjjaldnaaDoor
set_option linter.unusedVariables false
set_option linter.unusedSimpArgs false
set_option maxRecDepth 100000
open Go.RowKit
def NewF (w:World) (g:Nat) (e:Ending) (w':World):Prop:= ∃A c,e= .returned (.slice A 25 c)/\OwnF w' w.heap.size A c g 25/\Below w.heap.size w w'
theorem ownF_start (w:World) (g base:Nat) (hb:base<=w.heap.size):OwnF (w.alloc (.cells #[.pointer (some ⟨g,0,none⟩),.int .i64 2,.int .i64 2] 135)) base (some ⟨w.heap.size,0,none⟩) 1 g 1:=
 World.ownsRow_lit (base:=base) (e:=135) (size:=3) w #[.pointer (some ⟨g,0,none⟩),.int .i64 2,.int .i64 2] 1 hb (by unfold maxLen;omega) rfl
theorem pkB_wid {k:Nat} (hk:k<8):pkB.getD (k+1) 0=widV (k:Nat)/\pkT.getD (k+1) 0=2^(widV (k:Nat)).toNat-1:=by
 have:k=0\/k=1\/k=2\/k=3\/k=4\/k=5\/k=6\/k=7:=by omega
 rcases this with rfl|rfl|rfl|rfl|rfl|rfl|rfl|rfl<;>decide
theorem own_row {w:World} {base c g n:Nat} {A:Option Addr} (h:OwnF w base A c g n): ∀k,A.map (·.block)=some k->base<=k:=by
 intro k hk
 cases A with
 |none=>cases hk
 |some a=>
  injection hk with hk
  rw[<-hk]
  exact(h.lt a rfl).1
theorem fields_any (g:Nat) (w:World) (T:TabA w 1 widthL):
 Calls Tryd.prog 68 #[.pointer (some ⟨g,0,none⟩)] w (NewF w g):=by
 have HT:=hid T
 have S0:=hid (ownF_start w g w.heap.size (Nat.le_refl _))
 have B0:=hid ((Below.refl w.heap.size w).alloc (Nat.le_refl _) (.cells #[.pointer (some ⟨g,0,none⟩),.int .i64 2,.int .i64 2] 135))
 clear T
 go_enter Tryd.func68,Tryd.ntmps68
 go_wp2
 go_loopw [3,14] (fun sv iv wr=> ∃(k:Nat) (A:Option Addr) (c:Nat),k<=8/\iv= .int .i64 k/\sv= .slice A (k+1) c/\Hid (OwnF wr w.heap.size A c g (k+1))/\Hid (Below w.heap.size w wr)) (fun _ iv _=>8-(intOf iv).toNat)
 case atStart=>exact⟨0,_,_,by omega,rfl,rfl,S0,B0⟩
 case round=>
  clear S0 B0
  obtain⟨k,A,c,hk,rfl,rfl,HO,HB⟩:=hrel
  by_cases hlt:k<8
  ·have KW:=hid (fun W (h:TabA W 1 widthL)=>quantWidth_any (k:Nat) W h)
   have TW:=hid (HT.out.below HB.out)
   have HV:=pkB_wid hlt
   have k0:(0:Int)<=k:=by omega
   have k8:(k:Int)<8:=by omega
   obtain⟨v,hv⟩: ∃v,v=widV (k:Nat):=⟨_,rfl⟩
   rw[<-hv] at HV KW
   have hvc:v=3\/v=4\/v=5\/v=6:=by
    rcases widV_cases (k:Nat) with h|h|h|h|h<;>omega
   have HVV:=hid HV
   clear HV hv
   have HK:=hid hlt
   rcases hvc with rfl|rfl|rfl|rfl
   all_goals
    go_wp2_with (first
     |(go_at_call 76;(with_reducible refine(KW.out _ TW.out).mono ?_);rintro e w' ⟨rfl,rfl⟩)
     |(at_builtin;refine wpList_pushF rfl (.tmp 19) (.tmp 31) rfl w.heap.size A c g (k+1) 1 (k+1+1) rfl rfl (HO.out.alloc _) wr.heap.size _ rfl (Blk.new wr _ _) (fcells_one g (k+1) (fld_lit g (by omega) HVV.out.1 HVV.out.2)) (by omega) (by have:=HB.out.size;rw[World.size_alloc];omega) ?_;intro A5 c5 w5 hO hG;have O5:=hid hO;have B5:=hid ((HB.out.alloc HB.out.size _).grown hG (by have:=HB.out.size;rw[World.size_alloc];omega) (own_row HO.out));clear hO hG))
    go_roundw
    case rel=>exact⟨k+1,A5,c5,by omega,by go_num,rfl,O5,B5⟩
    case measure=>simp[intOf]<;>omega
  ·obtain rfl:k=8:=by omega
   have hA:(8:Nat)+1=9:=rfl
   rw[hA] at HO|-
   try rw[show((8:Nat):Int)=8 from rfl]
   go_wp2
   go_loopw [3,34] (fun sv iv wr=> ∃(s n:Nat) (A:Option Addr) (c:Nat),s<=2/\n=9+8*s/\iv= .int .i64 s/\sv= .slice A n c/\Hid (OwnF wr w.heap.size A c g n)/\Hid (Below w.heap.size w wr)) (fun _ iv _=>2-(intOf iv).toNat)
   case atStart=>exact⟨0,9,_,_,by omega,rfl,rfl,rfl,HO,HB⟩
   case round=>
    clear HO HB
    obtain⟨s,n,A,c,hs,hn,rfl,rfl,HO,HB⟩:=hrel
    by_cases hlt:s<2
    ·obtain rfl|rfl:s=0\/s=1:=by omega
     ·obtain rfl:n=9:=hn
      try rw[show((0:Nat):Int)=0 from rfl]
      have hdec:decide ((0:Int)<2)=true:=rfl
      go_wp2
      go_region_held3 (fun _=>True) (trivial) (first
       |(refine step_pushF rfl (.tmp 42) (.tmp 51) rfl w.heap.size A c g 9 2 11 rfl rfl (HO.out.alloc _).drew wr.heap.size _ rfl (Blk.drew (Blk.new wr _ _)) (fcells_two g 9 rfl) (by omega) (by have:=HB.out.size;show _<=(wr.alloc _).heap.size;rw[World.size_alloc];omega) ?_;intro A5 c5 w5 hO hG;have O5:=hid hO;have B5:=hid (((HB.out.alloc HB.out.size _).drew).grown hG (by have:=HB.out.size;show _<=(wr.alloc _).heap.size;rw[World.size_alloc];omega) (own_row HO.out));clear hO hG))
      rename_i hHeldZ
      clear hHeldZ HO HB
      try simp only[Exit.then]
      go_wp2
      go_loopw [3,53] (fun sv tv wr=> ∃(t m:Nat) (A:Option Addr) (c:Nat),t<=4/\m=11+t/\tv= .int .i64 t/\sv= .slice A m c/\Hid (OwnF wr w.heap.size A c g m)/\Hid (Below w.heap.size w wr)) (fun _ tv _=>4-(intOf tv).toNat)
      case atStart=>exact⟨0,11,_,_,by omega,rfl,rfl,rfl,O5,B5⟩
      case round=>
       clear O5 B5
       obtain⟨t,m,A,c,ht,hm,rfl,rfl,HO,HB⟩:=hrel
       by_cases hlt:t<4
       ·have t0:(0:Int)<=t:=by omega
        have t4:(t:Int)<4:=by omega
        have HM:=hid hm
        have HF:=hid (show pkB.getD m 0=4/\pkT.getD m 0=9 from by
         have:t=0\/t=1\/t=2\/t=3:=by omega
         rcases this with rfl|rfl|rfl|rfl<;>subst hm<;>exact⟨rfl,rfl⟩)
        clear hm
        go_wp2_with (at_builtin;refine wpList_pushF rfl (.tmp 56) (.tmp 63) rfl w.heap.size A c g m 1 (m+1) rfl rfl (HO.out.alloc _) wr.heap.size _ rfl (Blk.new wr _ _) (fcells_one g m (fld_lit g (by have:=HM.out;omega) HF.out.1 HF.out.2)) (by have:=HM.out;omega) (by have:=HB.out.size;rw[World.size_alloc];omega) ?_;intro A6 c6 w6 hO hG;have O6:=hid hO;have B6:=hid ((HB.out.alloc HB.out.size _).grown hG (by have:=HB.out.size;rw[World.size_alloc];omega) (own_row HO.out));clear hO hG)
        go_roundw
        case rel=>exact⟨t+1,m+1,A6,c6,by omega,by have:=HM.out;omega,by go_num,rfl,O6,B6⟩
        case measure=>simp[intOf]<;>omega
       ·obtain rfl:t=4:=by omega
        obtain rfl:m=15:=hm
        go_wp2
        go_region_held3 (fun _=>True) (trivial) (first
         |(refine step_pushF rfl (.tmp 66) (.tmp 75) rfl w.heap.size A c g 15 2 17 rfl rfl (HO.out.alloc _).drew wr.heap.size _ rfl (Blk.drew (Blk.new wr _ _)) (fcells_two g 15 rfl) (by omega) (by have:=HB.out.size;show _<=(wr.alloc _).heap.size;rw[World.size_alloc];omega) ?_;intro A7 c7 w7 hO hG;have O7:=hid hO;have B7:=hid (((HB.out.alloc HB.out.size _).drew).grown hG (by have:=HB.out.size;show _<=(wr.alloc _).heap.size;rw[World.size_alloc];omega) (own_row HO.out));clear hO hG))
        rename_i hHeldZ
        clear hHeldZ HO HB
        try simp only[Exit.then]
        go_wp2
        go_roundw
        case rel=>exact⟨0+1,17,A7,c7,by omega,by omega,rfl,rfl,O7,B7⟩
        case measure=>simp[intOf]<;>omega
     ·obtain rfl:n=17:=hn
      try rw[show((1:Nat):Int)=1 from rfl]
      have hdec:decide ((1:Int)<2)=true:=rfl
      go_wp2
      go_region_held3 (fun _=>True) (trivial) (first
       |(refine step_pushF rfl (.tmp 42) (.tmp 51) rfl w.heap.size A c g 17 2 19 rfl rfl (HO.out.alloc _).drew wr.heap.size _ rfl (Blk.drew (Blk.new wr _ _)) (fcells_two g 17 rfl) (by omega) (by have:=HB.out.size;show _<=(wr.alloc _).heap.size;rw[World.size_alloc];omega) ?_;intro A5 c5 w5 hO hG;have O5:=hid hO;have B5:=hid (((HB.out.alloc HB.out.size _).drew).grown hG (by have:=HB.out.size;show _<=(wr.alloc _).heap.size;rw[World.size_alloc];omega) (own_row HO.out));clear hO hG))
      rename_i hHeldZ
      clear hHeldZ HO HB
      try simp only[Exit.then]
      go_wp2
      go_loopw [3,53] (fun sv tv wr=> ∃(t m:Nat) (A:Option Addr) (c:Nat),t<=4/\m=19+t/\tv= .int .i64 t/\sv= .slice A m c/\Hid (OwnF wr w.heap.size A c g m)/\Hid (Below w.heap.size w wr)) (fun _ tv _=>4-(intOf tv).toNat)
      case atStart=>exact⟨0,19,_,_,by omega,rfl,rfl,rfl,O5,B5⟩
      case round=>
       clear O5 B5
       obtain⟨t,m,A,c,ht,hm,rfl,rfl,HO,HB⟩:=hrel
       by_cases hlt:t<4
       ·have t0:(0:Int)<=t:=by omega
        have t4:(t:Int)<4:=by omega
        have HM:=hid hm
        have HF:=hid (show pkB.getD m 0=4/\pkT.getD m 0=9 from by
         have:t=0\/t=1\/t=2\/t=3:=by omega
         rcases this with rfl|rfl|rfl|rfl<;>subst hm<;>exact⟨rfl,rfl⟩)
        clear hm
        go_wp2_with (at_builtin;refine wpList_pushF rfl (.tmp 56) (.tmp 63) rfl w.heap.size A c g m 1 (m+1) rfl rfl (HO.out.alloc _) wr.heap.size _ rfl (Blk.new wr _ _) (fcells_one g m (fld_lit g (by have:=HM.out;omega) HF.out.1 HF.out.2)) (by have:=HM.out;omega) (by have:=HB.out.size;rw[World.size_alloc];omega) ?_;intro A6 c6 w6 hO hG;have O6:=hid hO;have B6:=hid ((HB.out.alloc HB.out.size _).grown hG (by have:=HB.out.size;rw[World.size_alloc];omega) (own_row HO.out));clear hO hG)
        go_roundw
        case rel=>exact⟨t+1,m+1,A6,c6,by omega,by have:=HM.out;omega,by go_num,rfl,O6,B6⟩
        case measure=>simp[intOf]<;>omega
       ·obtain rfl:t=4:=by omega
        obtain rfl:m=23:=hm
        go_wp2
        go_region_held3 (fun _=>True) (trivial) (first
         |(refine step_pushF rfl (.tmp 66) (.tmp 75) rfl w.heap.size A c g 23 2 25 rfl rfl (HO.out.alloc _).drew wr.heap.size _ rfl (Blk.drew (Blk.new wr _ _)) (fcells_two g 23 rfl) (by omega) (by have:=HB.out.size;show _<=(wr.alloc _).heap.size;rw[World.size_alloc];omega) ?_;intro A7 c7 w7 hO hG;have O7:=hid hO;have B7:=hid (((HB.out.alloc HB.out.size _).drew).grown hG (by have:=HB.out.size;show _<=(wr.alloc _).heap.size;rw[World.size_alloc];omega) (own_row HO.out));clear hO hG))
        rename_i hHeldZ
        clear hHeldZ HO HB
        try simp only[Exit.then]
        go_wp2
        go_roundw
        case rel=>exact⟨1+1,25,A7,c7,by omega,by omega,rfl,rfl,O7,B7⟩
        case measure=>simp[intOf]<;>omega
    ·obtain rfl:s=2:=by omega
     obtain rfl:n=25:=hn
     go_wp2
     go_ret
     exact⟨A,c,rfl,HO.out,HB.out⟩
end Go.Proofs.YthoiikkjjaldnaaDoor
