/- Texts that the law rests on, laid together: UnD, DeD. -/
import Derived.Test.YthoiikkjjaldnaaDoorZ082df4
import Derived.Test.YthoiikkjjaldnaaDoorZd18350
import Derived.Test.YthoiikkjjaldnaaDoorZ4224a1
set_option maxHeartbeats 4000000
namespace Go.Proofs.YthoiikkjjaldnaaDoor
set_option linter.unusedVariables false
set_option linter.unusedSimpArgs false
set_option maxRecDepth 100000
open Go.RowKit
def UnOut (xs:List Int) (w:World) (e:Ending) (w':World):Prop:=e= .returned (.tuple #[.agg (agi (unL xs)),.int .i64 (unE xs)])/\Below w.heap.size w w'
theorem TwoP.weak {g h:Nat} {w w':World} (a:TwoP g g w w'):TwoP g h w w':=⟨a.os,a.tape,a.output,a.size,fun k h1 h2 _=>a.keep k h1 h2 h2⟩
theorem Rb.take {w:World} {B:Nat} {A:Option Addr} {xs:List Int} (h:Rb w B A xs) {k:Nat} (hk:k<=xs.length):Rb w B A (xs.take k):=by
 have h1:=Reads.take h hk
 simp only[Nat.mul_one] at h1
 unfold Rb
 rw[List.length_take,Nat.min_eq_left hk]
 have e:bts (xs.take k)=(bts xs).take k:=by simp[bts,List.map_take]
 rw[e];exact h1
theorem Byts.take {xs:List Int} (h:Byts xs) (k:Nat):Byts (xs.take k):=fun i=>by
 have h2:=h i
 rw[List.getD_eq_getElem?_getD,List.getElem?_take]
 split
 ·rw[<-List.getD_eq_getElem?_getD];exact h2
 ·simp
theorem cell_far (w:World) (v:Value) {p q:Addr} (h:q.block≠p.block):(w.setCell p v).cell? q=w.cell? q:=by
 unfold World.cell?
 rw[Below.heap_setCell w p v q.block h]
theorem unL_bad {xs:List Int} (h:unE xs≠0):unL xs=Z25:=by unfold unL;rw[if_neg h];rfl
structure Unq (w:World) (gA:Nat) (A:Option Addr) (c:Nat) (xs:List Int) (n:Nat) (L:List Int) (wr:World):Prop where
 U:Ust w.heap.size gA A c xs n wr
 I:IB wr (gA+1) 77 L
 R:IB wr (w.heap.size+1) 77 Z25
 B:Below w.heap.size w wr
 g:w.heap.size+1<gA
theorem Unq.get {w wr w':World} {gA c n n':Nat} {A:Option Addr} {xs L:List Int} (s:Unq w gA A c xs n L wr) (hU:Ust w.heap.size gA A c xs n' w') (hT:TwoP gA gA wr w'):Unq w gA A c xs n' L w':=
 ⟨hU,hT.blk s.I (by omega) (by omega),hT.blk s.R (by have:=s.g;omega) (by have:=s.g;omega),s.B.trans (hT.below (B:=w.heap.size) s.B.size (by have:=s.g;omega) (by have:=s.g;omega)),s.g⟩
theorem Unq.below {w wr w':World} {gA c n:Nat} {A:Option Addr} {xs L:List Int} (s:Unq w gA A c xs n L wr) (hb:Below wr.heap.size wr w'):Unq w gA A c xs n L w':=
 ⟨s.U.below hb,Blk.below' s.I hb,Blk.below' s.R hb,s.B.trans (hb.mono s.B.size),s.g⟩
def cellN' (w:World) (p:Addr):Nat:=match w.cell? p with
 |some (.int _ x)=>x.toNat
 |_=>0
theorem cellN'_of {w:World} {p:Addr} {x:Int} (h:w.cell? p=some (.int .i64 x)):cellN' w p=x.toNat:=by unfold cellN';rw[h]
theorem rest_step {V k:Nat} (hk:k<5) (h:V%32/2^(5-k)=0):V%32/2^(5-(k+1))=gt V (107+k) 1:=by
 unfold gt
 rw[Nat.shiftRight_eq_div_pow]
 have:k=0\/k=1\/k=2\/k=3\/k=4:=by omega
 rcases this with rfl|rfl|rfl|rfl|rfl
 ·simp only[show(5-0:Nat)=5 from rfl,show(5-(0+1):Nat)=4 from rfl,show(112-(107+0)-1:Nat)=4 from rfl,show(2:Nat)^5=32 from rfl,show(2:Nat)^4=16 from rfl,show(2:Nat)^1=2 from rfl] at*;omega
 ·simp only[show(5-1:Nat)=4 from rfl,show(5-(1+1):Nat)=3 from rfl,show(112-(107+1)-1:Nat)=3 from rfl,show(2:Nat)^4=16 from rfl,show(2:Nat)^3=8 from rfl,show(2:Nat)^1=2 from rfl] at*;omega
 ·simp only[show(5-2:Nat)=3 from rfl,show(5-(2+1):Nat)=2 from rfl,show(112-(107+2)-1:Nat)=2 from rfl,show(2:Nat)^3=8 from rfl,show(2:Nat)^2=4 from rfl,show(2:Nat)^1=2 from rfl] at*;omega
 ·simp only[show(5-3:Nat)=2 from rfl,show(5-(3+1):Nat)=1 from rfl,show(112-(107+3)-1:Nat)=1 from rfl,show(2:Nat)^2=4 from rfl,show(2:Nat)^1=2 from rfl] at*;omega
 ·simp only[show(5-4:Nat)=1 from rfl,show(5-(4+1):Nat)=0 from rfl,show(112-(107+4)-1:Nat)=0 from rfl,show(2:Nat)^1=2 from rfl,show(2:Nat)^0=1 from rfl] at*;omega
theorem packUnpack_any (A:Option Addr) (c n:Nat) (xs:List Int) (w:World) (T:TabA w 1 widthL) (hr:Rb w w.heap.size A xs) (hn:xs.length=n) (hc:n<=c) (hx:Byts xs):
 Calls Tryd.prog 35 #[.slice A n c] w (UnOut xs w):=by
 have hmf: ∀(fn:Fn) (first cap:Array Value) (w:World),(Instr.makeFunc fn first cap).run Tryd.prog w= .ok (.func fn first cap) w:=fun _ _ _ _=>rfl
 have hR:=results_row2 (fn:=Tryd.f35) (p:=2) (q:=3) (ty:=77) rfl
 have B0:=((Below.refl w.heap.size w).alloc (Nat.le_refl _) (.cells #[.slice A n c] 39)).alloc (by simp) (.cells (agi Z25) 77)
 have C0:=Blk.alloc (Blk.new w 39 #[.slice A n c]) (.cells (agi Z25) 77)
 have R0:=IB.new (w.alloc (.cells #[.slice A n c] 39)) 77 Z25
 simp only[World.size_alloc] at R0
 obtain⟨V,hV⟩: ∃V,V=(w.alloc (.cells #[.slice A n c] 39)).alloc (.cells (agi Z25) 77):=⟨_,rfl⟩
 have SV:=hid (show V.heap.size=w.heap.size+2 by rw[hV];simp)
 rw[<-hV] at B0 C0 R0
 have RX:=hid R0
 have BX:=hid B0
 have CX:=hid C0
 have HR:=hid (hr.below B0)
 have HX:=hid hx
 have TX:=hid (T.below B0)
 have cB:V.cell? ⟨w.heap.size,0,none⟩=some (.slice A n c):=Blk.cell C0 0
 have HV:=hid hV
 have HT0:=hid T
 clear B0 C0 R0 hr hx T hV
 by_cases h15:n≠15
 ·have HE:=hid (show unE xs=1 from by unfold unE;rw[if_pos (by rw[hn];exact h15)])
  have d0:((n:Int) !=15)=true:=by simp;omega
  have d1: ¬(n:Int)=15:=by omega
  go_enter Tryd.func35,Tryd.ntmps35
  go_wp2_with (first
   |(rw[show(w.alloc (.cells #[.slice A n c] 39)).alloc (.cells #[.int .i64 0,.int .i64 0,.int .i64 0,.int .i64 0,.int .i64 0,.int .i64 0,.int .i64 0,.int .i64 0,.int .i64 0,.int .i64 0,.int .i64 0,.int .i64 0,.int .i64 0,.int .i64 0,.int .i64 0,.int .i64 0,.int .i64 0,.int .i64 0,.int .i64 0,.int .i64 0,.int .i64 0,.int .i64 0,.int .i64 0,.int .i64 0,.int .i64 0] 77)=V from HV.out.symm];clear HV)
   |(refine wpList_storeI rfl 77 (.tmp 2) (.tmp 13) rfl _ 77 Z25 Z25 25 rfl rfl RX.out size25d rfl rfl ?_))
  have HZ:=hid (unL_bad (xs:=xs) (by rw[HE.out];decide))
  refine bodyPost_ret (v:=_) (hR _ _ _ 77 Z25 _ 25 rfl (IB.setRow RX.out Z25) Tryd.underlying77 rfl size25d rfl) rfl ?_
  exact⟨by rw[HE.out,HZ.out];rfl,below_setRow BX.out (Nat.le_succ _) _⟩
 ·obtain rfl:n=15:=by omega
  have HN:=hid hn
  obtain⟨ad,rfl,had,c14⟩:=HR.out.at_ (k:=14) (by rw[hn];omega)
  have KS:=hid (packSum_any (some ad) c 14 (xs.take 14) V.drew (show Rb V.drew V.heap.size (some ad) (xs.take 14) from(HR.out.more (by have:=SV.out;omega)).take (by rw[hn];omega)) (by rw[List.length_take,hn];rfl) (by omega) (HX.out.take 14))
  have hci:(14:Int)<=(c:Int):=by omega
  have c14:V.cell? ⟨ad.block,ad.off+14,none⟩=some (.int .u8 (xs.getD 14 0)):=by rw[Addr.add_succ'] at c14;exact c14
  have i14:(14:Int)<15:=by omega
  have hEE:unE xs=if chk (xs.take 14)≠xs.getD 14 0 then 5 else if unV xs%32≠0 then 3 else if pkTo (uL (unV xs) 25) 25=false then 2 else if pkPar (uL (unV xs) 25)≠(unV xs/32%2:Nat) then 3 else 0:=by
   unfold unE
   rw[if_neg (by rw[hn];simp)]
  have hcr:14<=c:=by omega
  clear hn h15
  go_enter Tryd.func35,Tryd.ntmps35
  go_wp2_with (rw[show(w.alloc (.cells #[.slice (some ad) 15 c] 39)).alloc (.cells #[.int .i64 0,.int .i64 0,.int .i64 0,.int .i64 0,.int .i64 0,.int .i64 0,.int .i64 0,.int .i64 0,.int .i64 0,.int .i64 0,.int .i64 0,.int .i64 0,.int .i64 0,.int .i64 0,.int .i64 0,.int .i64 0,.int .i64 0,.int .i64 0,.int .i64 0,.int .i64 0,.int .i64 0,.int .i64 0,.int .i64 0,.int .i64 0,.int .i64 0] 77)=V from HV.out.symm];clear HV)
  by_cases hck:chk (xs.take 14)=xs.getD 14 0
  ·rw[if_neg (by rw[hck];simp)] at hEE
   have HE:=hid hEE
   have d0:(chk (xs.take 14) !=xs.getD 14 0)=false:=by rw[hck];simp
   have d1:decide (chk (xs.take 14)=xs.getD 14 0)=true:=by simpa using hck
   have HCK:=hid hck
   clear hEE
   generalize chk (xs.take 14)=ck at*
   generalize xs.getD 14 0=x14 at*
   clear hck
   go_region_held3 (fun w'=>w'.cell? ⟨ad.block,ad.off+14,none⟩=some (.int .u8 x14)/\w'.cell? ⟨w.heap.size,0,none⟩=some (.slice (some ad) 15 c)) (go_keep) (first
    |(go_at_call 70;(with_reducible refine KS.out.mono ?_);rintro e' w' ⟨rfl,rfl⟩))
   rename_i hHeldZ
   clear hHeldZ
   try simp only[Exit.then]
   obtain⟨W,hW⟩: ∃W,W=V.drew:=⟨_,rfl⟩
   have SW:=hid (show W.heap.size=w.heap.size+2 from by rw[hW];exact SV.out)
   have RW:=hid (show IB W (w.heap.size+1) 77 Z25 from by rw[hW];exact RX.out)
   have CW:=hid (show Blk W w.heap.size 39 #[.slice (some ad) 15 c] from by rw[hW];exact CX.out)
   have LW:=hid (show Rb W w.heap.size (some ad) xs from by rw[hW];exact HR.out.more (by omega))
   have BW:=hid (show Below w.heap.size w W from by rw[hW];exact BX.out.drew)
   have TW:=hid (show TabA W 1 widthL from by rw[hW];exact TX.out.below ((Below.refl _ _).drew))
   rw[<-hW]
   clear hW RX CX HR BX TX SV KS cB c14 hci
   have L2:=((Below.refl W.heap.size W).alloc (Nat.le_refl _) (.cells #[.int .i64 0] 3)).alloc (by simp) (.cells (agi Z25) 77)
   have A2:=Blk.alloc (Blk.new W 3 #[.int .i64 0]) (.cells (agi Z25) 77)
   have P2:=IB.new (W.alloc (.cells #[.int .i64 0] 3)) 77 Z25
   simp only[World.size_alloc] at P2
   obtain⟨W2,hW2⟩: ∃W2,W2=(W.alloc (.cells #[.int .i64 0] 3)).alloc (.cells (agi Z25) 77):=⟨_,rfl⟩
   rw[<-hW2] at L2 A2 P2
   have U2:=hid (show Ust w.heap.size W.heap.size (some ad) c xs 0 W2 from⟨LW.out.below (L2.mono (by have:=SW.out;omega)),Blk.below' CW.out L2,A2,by have:=SW.out;omega⟩)
   have P2:=hid P2
   have R2:=hid (Blk.below' RW.out L2)
   have T2:=hid (TW.out.below L2)
   have B2:=hid (BW.out.trans (L2.mono BW.out.size))
   have HW2:=hid hW2
   clear L2 A2 hW2 RW CW LW BW TW
   go_wp2_with (rw[show(W.alloc (.cells #[.int .i64 0] 3)).alloc (.cells #[.int .i64 0,.int .i64 0,.int .i64 0,.int .i64 0,.int .i64 0,.int .i64 0,.int .i64 0,.int .i64 0,.int .i64 0,.int .i64 0,.int .i64 0,.int .i64 0,.int .i64 0,.int .i64 0,.int .i64 0,.int .i64 0,.int .i64 0,.int .i64 0,.int .i64 0,.int .i64 0,.int .i64 0,.int .i64 0,.int .i64 0,.int .i64 0,.int .i64 0] 77)=W2 from HW2.out.symm];clear HW2)
   refine(fields_any (W.heap.size+1) W2 T2.out).mono ?_
   rintro e w4 ⟨A4,c4,rfl,hO,hB⟩
   obtain⟨b,rfl,hb1,hb2,hb3⟩:=OwnF.at_ hO (by omega)
   have HC:=hid hb3
   have P4:=hid (Blk.below' P2.out hB)
   have R4:=hid (Blk.below' R2.out hB)
   have B4:=hid (B2.out.trans (hB.mono B2.out.size))
   have U4:=hid (U2.out.below hB)
   have T4:=hid (T2.out.below hB)
   have LB3:=hid (show W.heap.size+1<b from by have:=Blk.lt P2.out;omega)
   clear hO hB hb1 hb2 hb3 P2 R2 B2 U2 T2
   have U4:=hid (show Ust w.heap.size W.heap.size (some ad) c xs (pkA 0) w4 from U4.out)
   have P4:=hid (show IB w4 (W.heap.size+1) 77 (uL (unV xs) 0) from by rw[uL_zero];exact P4.out)
   go_wp2
   go_loopw [25] (fun iv wr=> ∃i:Nat,i<=25/\iv= .int .i64 i/\Hid (Ust w.heap.size W.heap.size (some ad) c xs (pkA i) wr)/\Hid (IB wr (W.heap.size+1) 77 (uL (unV xs) i))/\Hid (TwoP W.heap.size (W.heap.size+1) w4 wr)) (fun iv _=>25-(intOf iv).toNat)
   case atStart=>exact⟨0,by omega,rfl,U4,P4,hid (TwoP.refl _ _ _)⟩
   case round=>
    clear U4 P4
    obtain⟨i,hi,rfl,HU,HI,HT⟩:=hrel
    by_cases hlt:i<25
    ·obtain⟨f0,f1,f2⟩:=HC.out i hlt
     have hlb:=LB3.out
     have nb1:b≠W.heap.size:=by omega
     have nb2:b≠W.heap.size+1:=by omega
     have c0:wr.cell? ⟨b,i*3,none⟩=some (.pointer (some ⟨W.heap.size+1,i,none⟩)):=by rw[Nat.mul_comm];exact HT.out.cell f0 nb1 nb2
     have c1:wr.cell? ⟨b,i*3+1,none⟩=some (.int .i64 (pkB.getD i 0)):=by rw[Nat.mul_comm];exact HT.out.cell f1 nb1 nb2
     have c2:wr.cell? ⟨b,i*3+2,none⟩=some (.int .i64 (pkT.getD i 0)):=by rw[Nat.mul_comm];exact HT.out.cell f2 nb1 nb2
     obtain⟨hn1,hn2,_⟩:=pkN_le hlt
     have ha:=pkA_le (n:=i+1) (by omega)
     have SY:=hid (show pkA (i+1)=pkA i+pkN i from rfl)
     have SU:=hid (show uF (unV xs) i=gt (unV xs) (pkA i) (pkN i) from rfl)
     have HSet:=hid (uL_set (unV xs) hlt)
     rw[SY.out] at ha
     rw[hn2] at c1
     have hpl:=(cell_lt3 c0)
     have hgl:=Blk.lt HI.out
     generalize pkN i=n at*
     generalize pkT.getD i 0=t at*
     have i0:(0:Int)<=i:=by omega
     have i25:(i:Int)<25:=by omega
     obtain⟨Y,hY⟩: ∃Y,Y=wr.alloc (.cells #[.pointer (some ⟨W.heap.size+1,i,none⟩),.int .i64 (n:Nat),.int .i64 t] 135):=⟨_,rfl⟩
     have LY:Below wr.heap.size wr Y:=by rw[hY];exact(Below.refl _ _).alloc (Nat.le_refl _) _
     have q0:Y.cell? ⟨wr.heap.size,0,none⟩=some (.pointer (some ⟨W.heap.size+1,i,none⟩)):=by rw[hY];exact Blk.cell (Blk.new wr _ _) 0
     have q1:Y.cell? ⟨wr.heap.size,1,none⟩=some (.int .i64 (n:Nat)):=by rw[hY];exact Blk.cell (Blk.new wr _ _) 1
     have UY:=hid (HU.out.below LY)
     have IY:=hid (Blk.below' HI.out LY)
     have TY:=hid (HT.out.trans (TwoP.of_below LY))
     have nr1:wr.heap.size≠W.heap.size:=by omega
     have nr2:wr.heap.size≠W.heap.size+1:=by omega
     have nr3: ¬W.heap.size+1=wr.heap.size:=by omega
     have KU:=hid (get_any w.heap.size W.heap.size c (pkA i) n (some ad) xs Y.drew (UY.out.drewN 1) HX.out HN.out (by omega) hn1 (by omega))
     clear f0 f1 f2 hn2
     go_wp2
     rw[<-hY]
     clear hY c0 c1 c2 LY
     go_region_held3 (fun w'=>w'.cell? ⟨wr.heap.size,0,none⟩=some (.pointer (some ⟨W.heap.size+1,i,none⟩))/\w'.cell? ⟨wr.heap.size,1,none⟩=some (.int .i64 (n:Nat))) (first|go_keep|(refine⟨?_,?_⟩;(refine(cell_far _ _ nr2).trans ?_;assumption);(refine(cell_far _ _ nr2).trans ?_;assumption))) (first
      |(go_at_call 72;(with_reducible refine KU.out.mono ?_);rintro e' w5 ⟨rfl,hS,hT⟩;have k0:=hT.cell (p:=⟨wr.heap.size,0,none⟩) q0 nr1 nr1;have k1:=hT.cell (p:=⟨wr.heap.size,1,none⟩) q1 nr1 nr1;have S5:=hid hS;have I5:=hid (hT.blk (Blk.drew IY.out) (by omega) (by omega));have T5:=hid (TY.out.drew.trans hT.weak);have ip:=IB.cell I5.out i (by rw[uL_len];exact hlt);have fp:=Blk.frozen I5.out i;clear hS hT))
     rename_i hHeldZ
     clear hHeldZ k0 k1 q0 q1 ip fp
     try simp only[Exit.then]
     have U6:=hid (show Ust w.heap.size W.heap.size (some ad) c xs (pkA (i+1)) (w5.setCell ⟨W.heap.size+1,i,none⟩ (.int .i64 (gt (unV xs) (pkA i) n:Nat))) from by rw[SY.out];exact S5.out.far (by show w.heap.size<W.heap.size+1;have:=SW.out;omega) (by show W.heap.size≠W.heap.size+1;omega) _)
     have I6:=hid (show IB (w5.setCell ⟨W.heap.size+1,i,none⟩ (.int .i64 (gt (unV xs) (pkA i) n:Nat))) (W.heap.size+1) 77 (uL (unV xs) (i+1)) from by rw[<-HSet.out,SU.out];exact IB.set_ I5.out i _)
     have T6:=hid (T5.out.set2 i (.int .i64 (gt (unV xs) (pkA i) n:Nat)))
     go_wp2
     go_roundw
     case rel=>exact⟨i+1,by omega,by go_num,U6,I6,T6⟩
     case measure=>simp[intOf]<;>omega
    ·obtain rfl:i=25:=by omega
     try rw[show((25:Nat):Int)=25 from rfl]
     rw[pkA_end] at HU
     have S0:=hid (show Unq w W.heap.size (some ad) c xs 106 (uL (unV xs) 25) wr from
      ⟨HU.out,HI.out,HT.out.blk R4.out (by have:=SW.out;omega) (by have:=SW.out;omega),B4.out.trans (HT.out.below (B:=w.heap.size) (by have:=B4.out.size;exact this) (by have:=SW.out;omega) (by have:=SW.out;omega)),by have:=SW.out;omega⟩)
     have KQ:=hid (fun W' (S:Ust w.heap.size W.heap.size (some ad) c xs 106 W')=>show Calls Tryd.prog 72 #[.int .i64 1,.pointer (some ⟨w.heap.size,0,none⟩),.pointer (some ⟨W.heap.size,0,none⟩)] W' (fun e w'=>e= .returned (.int .i64 (gt (unV xs) 106 1:Nat))/\Ust w.heap.size W.heap.size (some ad) c xs (106+1) w'/\TwoP W.heap.size W.heap.size W' w') from get_any w.heap.size W.heap.size c 106 1 (some ad) xs W' S HX.out HN.out (by omega) (by omega) (by omega))
     have KR:=hid (fun K W' (S:Ust w.heap.size W.heap.size (some ad) c xs K W') (hK:K+1<=112)=>show Calls Tryd.prog 72 #[.int .i64 1,.pointer (some ⟨w.heap.size,0,none⟩),.pointer (some ⟨W.heap.size,0,none⟩)] W' (fun e w'=>e= .returned (.int .i64 (gt (unV xs) K 1:Nat))/\Ust w.heap.size W.heap.size (some ad) c xs (K+1) w'/\TwoP W.heap.size W.heap.size W' w') from get_any w.heap.size W.heap.size c K 1 (some ad) xs W' S HX.out HN.out (by omega) (by omega) hK)
     have KG:=hid (fun W' (h:TabA W' 1 widthL)=>packGood_any (uL (unV xs) 25) W' h (uL_len _ _))
     have KP:=hid (fun W'=>packParity_any (uL (unV xs) 25) W' (uL_len _ _) (uL_64 _ _))
     rw[gt_par] at KQ
     clear HU HI HT R4 B4 T4 HC
     generalize unV xs/32%2=pq at*
     go_wp2_with (go_at_call 72;(with_reducible refine(KQ.out wr S0.out.U).mono ?_);rintro e' w5 ⟨rfl,hS,hT⟩;have S1:=hid (S0.out.get hS hT);clear hS hT)
     go_loopw [] (fun wr=> ∃k:Nat,k<=5/\Hid (Unq w W.heap.size (some ad) c xs (107+k) (uL (unV xs) 25) wr)/\Hid (unV xs%32/2^(5-k)=0)) (fun wr=>112-cellN' wr ⟨W.heap.size,0,none⟩)
     case atStart=>exact⟨0,by omega,S1,hid (Nat.div_eq_of_lt (Nat.mod_lt _ (by decide)))⟩
     case round=>
      clear S0 S1
      obtain⟨k,hk,SX,HD⟩:=hrel
      have cA:wr.cell? ⟨W.heap.size,0,none⟩=some (.int .i64 ((107+k:Nat):Int)):=Blk.cell SX.out.U.A 0
      have MA:=hid (cellN'_of cA)
      by_cases hk5:k<5
      ·have HB:=hid (rest_step hk5 HD.out)
       have ul:=gt_lt (unV xs) (107+k) 1
       have KK:=hid (KR.out (107+k) wr SX.out.U (by omega))
       generalize gt (unV xs) (107+k) 1=u at*
       obtain⟨K,hK⟩: ∃K,K=107+k:=⟨_,rfl⟩
       rw[<-hK] at cA KK SX MA
       have hK112:(K:Int)<112:=by omega
       by_cases hu:u=1
       ·subst hu
        have HE2:=hid (show unE xs=3 from by
         rw[HE.out,if_pos]
         intro h0
         have:=HB.out
         rw[h0] at this
         simp at this)
        have HE:=HE2
        have HZ:=hid (unL_bad (xs:=xs) (by rw[HE.out];decide))
        go_wp2_with (first
         |(go_at_call 72;(with_reducible refine KK.out.mono ?_);rintro e' w6 ⟨rfl,hS,hT⟩;have S6:=hid (SX.out.get hS hT);clear hS hT)
         |(refine wpList_storeI rfl 77 (.tmp 2) (.tmp 44) rfl _ 77 Z25 Z25 25 rfl rfl S6.out.R size25d rfl rfl ?_))
        refine bodyPost_ret (v:=_) (hR _ _ _ 77 Z25 _ 25 rfl (IB.setRow S6.out.R Z25) Tryd.underlying77 rfl size25d rfl) rfl ?_
        exact⟨by rw[HE.out,HZ.out];rfl,below_setRow S6.out.B (Nat.le_succ _) _⟩
       ·obtain rfl:u=0:=by omega
        go_wp2_with (go_at_call 72;(with_reducible refine KK.out.mono ?_);rintro e' w6 ⟨rfl,hS,hT⟩;have S6:=hid (SX.out.get hS hT);clear hS hT)
        have M6:=hid (cellN'_of (Blk.cell S6.out.U.A 0))
        go_roundw
        case rel=>exact⟨k+1,by omega,hid (by rw[show 107+(k+1)=K+1 by omega];exact S6.out),hid HB.out⟩
        case measure=>
         rw[M6.out,MA.out]
         omega
      ·obtain rfl:k=5:=by omega
       have hD:=HD.out
       simp only[Nat.sub_self,Nat.pow_zero,Nat.div_one] at hD
       have cA:wr.cell? ⟨W.heap.size,0,none⟩=some (.int .i64 112):=cA
       have HE1:=HE.out
       rw[if_neg (by rw[hD];simp)] at HE1
       have TG:=hid (HT0.out.below SX.out.B)
       have KG:=KG.out wr TG.out
       by_cases hg:pkTo (uL (unV xs) 25) 25=true
       ·rw[hg] at KG
        rw[if_neg (by rw[hg];simp)] at HE1
        have KG:=hid KG
        by_cases hp:pkPar (uL (unV xs) 25)=(pq:Nat)
        ·have HE:=hid (show unE xs=0 from by rw[HE1,if_neg (by rw[hp];simp)])
         have HZ:=hid (show unL xs=uL (unV xs) 25 from by unfold unL;rw[if_pos HE.out])
         rw[hp] at KP
         clear HE1 hD hg hp MA HD
         go_wp2_with (first
          |(refine wpList_loadI rfl 77 (.tmp 6) rfl _ 77 (uL (unV xs) 25) 25 _ rfl SX.out.I Tryd.underlying77 rfl size25d (uL_len _ _) ?_)
          |(go_at_call 66;(with_reducible refine KG.out.mono ?_);rintro e' w7 ⟨rfl,hB⟩;have S7:=hid (SX.out.below hB);clear hB)
          |(refine wpList_loadI rfl 77 (.tmp 6) rfl _ 77 (uL (unV xs) 25) 25 _ rfl S7.out.I Tryd.underlying77 rfl size25d (uL_len _ _) ?_)
          |(go_at_call 69;(with_reducible refine(KP.out w7).mono ?_);rintro e' w8 ⟨rfl,hB⟩;have S8:=hid (S7.out.below hB);clear hB)
          |(refine wpList_loadI rfl 77 (.tmp 6) rfl _ 77 (uL (unV xs) 25) 25 _ rfl S8.out.I Tryd.underlying77 rfl size25d (uL_len _ _) ?_)
          |(refine wpList_storeI rfl 77 (.tmp 2) (.tmp 54) rfl _ 77 Z25 (uL (unV xs) 25) 25 rfl rfl S8.out.R size25d rfl (uL_len _ _) ?_))
         refine bodyPost_ret (v:=_) (hR _ _ _ 77 (uL (unV xs) 25) _ 25 rfl (IB.setRow S8.out.R (uL (unV xs) 25)) Tryd.underlying77 rfl size25d (uL_len _ _)) rfl ?_
         exact⟨by rw[HE.out,HZ.out];rfl,below_setRow S8.out.B (Nat.le_succ _) _⟩
        ·have HE9:=hid (show unE xs=3 from by rw[HE1,if_pos hp])
         have HZ9:=hid (unL_bad (xs:=xs) (by rw[HE9.out];decide))
         have hne:(((pq:Nat):Int) !=pkPar (uL (unV xs) 25))=true:=by rw[bne_iff_ne];exact fun h=>hp h.symm
         have hne2: ¬((pq:Nat):Int)=pkPar (uL (unV xs) 25):=fun h=>hp h.symm
         generalize pkPar (uL (unV xs) 25)=pr at*
         clear HE1 hD hg hp MA HD
         go_wp2_with (first
          |(refine wpList_loadI rfl 77 (.tmp 6) rfl _ 77 (uL (unV xs) 25) 25 _ rfl SX.out.I Tryd.underlying77 rfl size25d (uL_len _ _) ?_)
          |(go_at_call 66;(with_reducible refine KG.out.mono ?_);rintro e' w7 ⟨rfl,hB⟩;have S7:=hid (SX.out.below hB);clear hB)
          |(refine wpList_loadI rfl 77 (.tmp 6) rfl _ 77 (uL (unV xs) 25) 25 _ rfl S7.out.I Tryd.underlying77 rfl size25d (uL_len _ _) ?_)
          |(go_at_call 69;(with_reducible refine(KP.out w7).mono ?_);rintro e' w8 ⟨rfl,hB⟩;have S8:=hid (S7.out.below hB);clear hB)
          |(refine wpList_storeI rfl 77 (.tmp 2) (.tmp 53) rfl _ 77 Z25 Z25 25 rfl rfl S8.out.R size25d rfl rfl ?_))
         refine bodyPost_ret (v:=_) (hR _ _ _ 77 Z25 _ 25 rfl (IB.setRow S8.out.R Z25) Tryd.underlying77 rfl size25d rfl) rfl ?_
         exact⟨by rw[HE9.out,HZ9.out];rfl,below_setRow S8.out.B (Nat.le_succ _) _⟩
       ·have hgf:pkTo (uL (unV xs) 25) 25=false:=by simpa using hg
        rw[hgf] at KG
        rw[if_pos hgf] at HE1
        have KG:=hid KG
        have HE:=hid HE1
        have HZ:=hid (unL_bad (xs:=xs) (by rw[HE.out];decide))
        clear HE1 hD hg hgf MA HD
        go_wp2_with (first
         |(refine wpList_loadI rfl 77 (.tmp 6) rfl _ 77 (uL (unV xs) 25) 25 _ rfl SX.out.I Tryd.underlying77 rfl size25d (uL_len _ _) ?_)
         |(go_at_call 66;(with_reducible refine KG.out.mono ?_);rintro e' w7 ⟨rfl,hB⟩;have S7:=hid (SX.out.below hB);clear hB)
         |(refine wpList_storeI rfl 77 (.tmp 2) (.tmp 48) rfl _ 77 Z25 Z25 25 rfl rfl S7.out.R size25d rfl rfl ?_))
        refine bodyPost_ret (v:=_) (hR _ _ _ 77 Z25 _ 25 rfl (IB.setRow S7.out.R Z25) Tryd.underlying77 rfl size25d rfl) rfl ?_
        exact⟨by rw[HE.out,HZ.out];rfl,below_setRow S7.out.B (Nat.le_succ _) _⟩
  ·rw[if_pos hck] at hEE
   have HE:=hid hEE
   have d0:(chk (xs.take 14) !=xs.getD 14 0)=true:=by rw[bne_iff_ne];exact hck
   clear hEE
   generalize chk (xs.take 14)=ck at*
   generalize xs.getD 14 0=x14 at*
   go_region_held3 (fun w'=>w'.cell? ⟨ad.block,ad.off+14,none⟩=some (.int .u8 x14)/\w'.cell? ⟨w.heap.size,0,none⟩=some (.slice (some ad) 15 c)) (go_keep) (first
    |(go_at_call 70;(with_reducible refine KS.out.mono ?_);rintro e' w' ⟨rfl,rfl⟩))
   rename_i hHeldZ
   clear hHeldZ
   try simp only[Exit.then]
   have RY:=hid (show IB (V.drew) (w.heap.size+1) 77 Z25 from RX.out)
   have BY:=hid (show Below w.heap.size w (V.drew) from⟨BX.out.os,BX.out.tape,BX.out.output,BX.out.size,BX.out.block⟩)
   have HZ:=hid (unL_bad (xs:=xs) (by rw[HE.out];decide))
   go_wp2_with (refine wpList_storeI rfl 77 (.tmp 2) (.tmp 21) rfl _ 77 Z25 Z25 25 rfl rfl RY.out size25d rfl rfl ?_)
   refine bodyPost_ret (v:=_) (hR _ _ _ 77 Z25 _ 25 rfl (IB.setRow RY.out Z25) Tryd.underlying77 rfl size25d rfl) rfl ?_
   exact⟨by rw[HE.out,HZ.out];rfl,below_setRow BY.out (Nat.le_succ _) _⟩
end Go.Proofs.YthoiikkjjaldnaaDoor
namespace Go.Proofs.YthoiikkjjaldnaaDoor
set_option linter.unusedVariables false
set_option linter.unusedSimpArgs false
set_option maxRecDepth 100000
open Go.RowKit
theorem storedP (w:World) (ps:List Int):IB ((w.alloc (.cells (agi Z25) 77)).setRow w.heap.size (agi ps)) w.heap.size 77 ps:=IB.stored w 77 Z25 ps
theorem z25_eq:agi Z25= #[.int .i64 0,.int .i64 0,.int .i64 0,.int .i64 0,.int .i64 0,.int .i64 0,.int .i64 0,.int .i64 0,.int .i64 0,.int .i64 0,.int .i64 0,.int .i64 0,.int .i64 0,.int .i64 0,.int .i64 0,.int .i64 0,.int .i64 0,.int .i64 0,.int .i64 0,.int .i64 0,.int .i64 0,.int .i64 0,.int .i64 0,.int .i64 0,.int .i64 0]:=rfl
theorem NewM.bad {w w':World} {er:Int} (hB:Below w.heap.size w w'):NewM w zeroM [] er (.returned (.tuple #[.agg zeroM.ag,.slice none 0 0,.int .i64 er])) w':=⟨none,0,rfl,Own.nil,hB⟩
theorem decode_any (m:Mm) (k:m.ok) (A:Option Addr) (c n:Nat) (xs:List Int) (w:World) (T1:TabA w 2 rootsL) (T2:TabA w 0 gainsL) (T3:TabA w 1 widthL)
 (hr:Rb w w.heap.size A xs) (hn:xs.length=n) (hc:n<=c) (hx:Byts xs):Calls Tryd.prog 12 #[.agg m.ag,.slice A n c] w (NewM w (deM m xs) (deY m xs) (deE m xs)):=by
 have hR:=results_mem3 (fn:=Tryd.f12) (p:=4) (q:=5) (r:=6) rfl
 have S0:=hid (Ms.start w m)
 have K:=hid k
 have KG:=hid (fun W=>good_any m k W)
 have KU:=hid (fun W (h:Below w.heap.size w W)=>packUnpack_any A c n xs W (T3.below h) ((hr.below h).more h.size) hn hc hx)
 unfold UnOut at KU
 have FE:=hid (show deE m xs=if goodM m=true then unE xs else 2 from rfl)
 have FM:=hid (fun(h:deE m xs≠0)=>show deM m xs=zeroM from by unfold deM;rw[if_neg h])
 have FY:=hid (fun(h:deE m xs≠0)=>show deY m xs=[] from by unfold deY;rw[if_neg h])
 have FM0:=hid (fun(h:deE m xs=0)=>show deM m xs=frM m (unL xs) from by unfold deM;rw[if_pos h])
 have FY0:=hid (fun(h:deE m xs=0)=>show deY m xs=frO m (unL xs) from by unfold deY;rw[if_pos h])
 have UL:=hid (unL_len xs)
 have UE:=hid (fun(h:unE xs=0)=>unE_to h)
 have TT:=hid (⟨T1,T2,T3⟩:TabA w 2 rootsL/\TabA w 0 gainsL/\TabA w 1 widthL)
 have OKF:=hid (fun(h:unE xs=0)=>frM_ok k (unE_to h) (unL_len xs))
 have KFR:=hid (fun W (h:Below w.heap.size w W) (g:goodM m=true) (he:unE xs=0)=>frame_any m k g (unL xs) W (T1.below h) (T2.below h) (T3.below h) (unE_to he) (unL_len xs))
 clear k hr hn hc hx T1 T2 T3
 go_enter Tryd.func12,Tryd.ntmps12
 go_wp2_with (refine wpList_loadM rfl (.tmp 2) rfl _ m rfl S0.out.A K.out ?_)
 with_reducible refine(KG.out _).mono ?_
 rintro e w1 ⟨rfl,hB⟩
 have S1:=hid (S0.out.below hB)
 clear hB S0 KG
 cases hg:goodM m with
 |false=>
  have HE:=hid (show deE m xs=2 from by rw[FE.out,hg];rfl)
  clear hg
  have hRow:=hid (MB.setRow S1.out.R zeroM)
  have FIN:=hid (below_setRow S1.out.bel (g:=w.heap.size+1) (by omega) zeroM.ag)
  go_wp2_with (refine wpList_storeM rfl (.tmp 4) (.tmp 13) rfl _ zeroM zeroM rfl (congrArg Value.agg zeroM_ag) S1.out.R zeroM_ok zeroM_ok ?_)
  refine bodyPost_ret (v:=_) (hR _ _ _ zeroM rfl hRow.out zeroM_ok) rfl ?_
  rw[FM.out (by rw[HE.out];decide),FY.out (by rw[HE.out];decide),HE.out]
  exact NewM.bad FIN.out
 |true=>
  have HG:=hid hg
  have FE:=hid (show deE m xs=unE xs from by rw[FE.out,hg];rfl)
  clear hg
  go_wp2_with fail
  with_reducible refine(KU.out w1 S1.out.bel).mono ?_
  rintro e w2 ⟨rfl,hB⟩
  have S2:=hid (S1.out.below hB)
  clear hB S1 KU
  by_cases he:unE xs=0
  ·have HE:=hid (show deE m xs=0 from by rw[FE.out,he])
   have KF2:=hid (fun W h=>KFR.out W h HG.out he)
   have OK2:=hid (OKF.out he)
   have FM2:=hid (FM0.out HE.out)
   have FY2:=hid (FY0.out HE.out)
   have LO:=hid (frO_len m (unL xs))
   rw[he]
   clear he UE FM0 FY0 FM FY KFR OKF FE
   generalize unL xs=ps at*
   generalize frM m ps=mf at*
   generalize frO m ps=yf at*
   go_wp2_with (first
    |(refine wpList_storeI rfl 77 (.tmp 7) (.tmp 17) rfl _ 77 Z25 ps 25 rfl rfl (IB.new w2 77 Z25) size25d rfl UL.out ?_
      have BB:=below_stored w2 (.cells (agi Z25) 77) (agi ps)
      obtain⟨V3,hV⟩: ∃V3,V3=(w2.alloc (.cells (agi Z25) 77)).setRow w2.heap.size (agi ps):=⟨_,rfl⟩
      have S3:=hid (show Ms w V3 m from by rw[hV];exact S2.out.below BB)
      have P3:=hid (show IB V3 w2.heap.size 77 ps from by rw[hV];exact storedP w2 ps)
      rw[z25_eq] at hV
      rw[<-hV]
      clear hV BB)
    |(refine wpList_loadM rfl (.tmp 2) rfl _ m rfl S3.out.A K.out ?_)
    |(refine wpList_loadI rfl 77 (.tmp 7) rfl _ 77 ps 25 _ rfl P3.out Tryd.underlying77 rfl size25d UL.out ?_))
   with_reducible refine(KF2.out V3 S3.out.bel).mono ?_
   rintro e w4 ⟨A4,c4,rfl,hO,hB⟩
   have S4:=hid (S3.out.below hB)
   have O4:=hid hO
   have LT:=hid S3.out.lt
   clear hO hB
   have S5:=hid (S4.out.setA (mm:=mf))
   have O5:=hid (O4.out.setRow (g:=w.heap.size) (by have:=LT.out;omega) mf.ag)
   obtain⟨V5,hV5⟩: ∃V5,V5=w4.setRow w.heap.size mf.ag:=⟨_,rfl⟩
   rw[<-hV5] at S5 O5
   have HV5:=hid hV5
   clear hV5
   rw[LO.out]
   go_wp2_with (first
    |(refine wpList_storeM rfl (.tmp 2) (.tmp 27) rfl _ m mf rfl rfl S4.out.A K.out OK2.out ?_;rw[<-HV5.out];clear HV5)
    |(refine wpList_loadM rfl (.tmp 2) rfl _ mf rfl S5.out.A OK2.out ?_)
    |(refine wpList_storeM rfl (.tmp 4) (.tmp 29) rfl _ zeroM mf rfl rfl S5.out.R zeroM_ok OK2.out ?_))
   refine bodyPost_ret (v:=_) (hR _ _ _ mf rfl (MB.setRow S5.out.R mf) OK2.out) rfl ?_
   rw[FM2.out,FY2.out,HE.out]
   exact⟨A4,c4,by rw[LO.out];rfl,(O5.out.setRow (g:=w.heap.size+1) (by have:=LT.out;omega) mf.ag).more (base':=w.heap.size) (by have:=LT.out;omega),below_setRow S5.out.bel (g:=w.heap.size+1) (by omega) mf.ag⟩
  ·have HE:=hid (show deE m xs≠0 from by rw[FE.out];exact he)
   have HE2:=hid FE.out
   have he2:(unE xs !=0)=true:=by simpa using he
   have FM2:=hid (FM.out HE.out)
   have FY2:=hid (FY.out HE.out)
   clear FE FM FY FM0 FY0 UE OKF KFR HE HG
   generalize unE xs=ee at*
   generalize unL xs=ps at*
   go_wp2_with (first
    |(refine wpList_storeI rfl 77 (.tmp 7) (.tmp 17) rfl _ 77 Z25 ps 25 rfl rfl (IB.new w2 77 Z25) size25d rfl UL.out ?_
      have BB:=below_stored w2 (.cells (agi Z25) 77) (agi ps)
      obtain⟨V3,hV⟩: ∃V3,V3=(w2.alloc (.cells (agi Z25) 77)).setRow w2.heap.size (agi ps):=⟨_,rfl⟩
      have S3:=hid (show Ms w V3 m from by rw[hV];exact S2.out.below BB)
      rw[z25_eq] at hV
      rw[<-hV]
      clear hV BB)
    |(refine wpList_storeM rfl (.tmp 4) (.tmp 21) rfl _ zeroM zeroM rfl (congrArg Value.agg zeroM_ag) S3.out.R zeroM_ok zeroM_ok ?_))
   refine bodyPost_ret (v:=_) (hR _ _ _ zeroM rfl (MB.setRow S3.out.R zeroM) zeroM_ok) rfl ?_
   rw[FM2.out,FY2.out,HE2.out]
   exact NewM.bad (below_setRow S3.out.bel (g:=w.heap.size+1) (by omega) zeroM.ag)
end Go.Proofs.YthoiikkjjaldnaaDoor
