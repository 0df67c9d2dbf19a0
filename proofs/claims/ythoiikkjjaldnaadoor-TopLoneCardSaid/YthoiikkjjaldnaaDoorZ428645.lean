/- Texts that the law rests on, laid together: ScoW, BigBit, ScoR. -/
import Derived.Test.YthoiikkjjaldnaaDoorZ306d7b
import Derived.Test.YthoiikkjjaldnaaDoorZ7e0d48
import Derived.BigRegion
import Derived.Test.YthoiikkjjaldnaaDoorZd03041
import Derived.Laws.CopyOwn
import Derived.Test.YthoiikkjjaldnaaDoorZcd86f7
set_option maxHeartbeats 4000000
namespace Go.Proofs.YthoiikkjjaldnaaDoor
set_option linter.unusedVariables false
set_option linter.unusedSimpArgs false
set_option maxRecDepth 100000
open Go.RowKit
theorem size4i:(Tryd.prog.info? 72).map (·.size)=some 4:=by kernel_rfl
theorem zeroTbl:Tryd.zeroCells168=agi (List.replicate 1600 0):=by kernel_rfl
theorem sign_any (x:Int) (w:World):Calls Tryd.prog 101 #[.int .i64 x] w fun e w'=>e= .returned (.int .i64 (sgp x))/\w'=w:=by
 by_cases h:x<0
 ·have hs:=hid (show sgp x= -1 by unfold sgp;rw[if_pos h])
  go_enter Tryd.func101,Tryd.ntmps101
  go_wp2
  go_ret
  exact⟨by rw[hs.out];rfl,rfl⟩
 ·have hs:=hid (show sgp x=1 by unfold sgp;rw[if_neg h])
  go_enter Tryd.func101,Tryd.ntmps101
  go_wp2
  go_ret
  exact⟨by rw[hs.out];rfl,rfl⟩
theorem energies_any (A:Option Addr) (c:Nat) (ring:List Int) (w:World) (hr:Rs w w.heap.size A ring) (hn:ring.length=40) (hw:W64 ring):
 Calls Tryd.prog 95 #[.slice A 40 c] w (fun e w'=> ∃L,e= .returned (.pointer (some ⟨w.heap.size,0,none⟩))/\IB w' w.heap.size 168 L/\Tbl L ring 40 0/\Below w.heap.size w w'):=by
 have HR:=hid hr
 have KE:=hid (fun(W:World) (h:Rs W W.heap.size A ring) (a b:Nat) (ha:a<40) (hb:b<40)=>show Calls Tryd.prog 100 #[.slice A 40 c,.int .i64 (a:Nat),.int .i64 (b:Nat)] W (fun e w'=>e= .returned (.tuple #[.int .i64 (en0 ring a b),.int .i64 0])/\Below W.heap.size W w') from by
  refine(pulsesEnergy_any A c 40 ring a b W h hn hw).mono ?_
  rintro e w' ⟨rfl,hB⟩
  have he:enErr ring.length (a:Int) (b:Int)=0:=by unfold enErr inH;rw[if_pos hn];simp;omega
  refine⟨?_,hB⟩
  rw[he]
  unfold enV
  rw[he,if_pos rfl,en0_dot]
  rfl)
 have I0:=hid (show IB (w.alloc (.cells Tryd.zeroCells168 168)) w.heap.size 168 (List.replicate 1600 0) from by rw[zeroTbl];exact IB.new w _ _)
 have B0:=hid ((Below.refl w.heap.size w).alloc (Nat.le_refl _) (.cells Tryd.zeroCells168 168))
 have T0:=hid (Tbl.start ring)
 clear hr hn hw
 go_enter Tryd.func95,Tryd.ntmps95
 go_wp2
 generalize w.alloc (.cells Tryd.zeroCells168 168)=w0 at I0 B0|-
 generalize List.replicate 1600 (0:Int)=L0 at I0 T0
 go_loopw [8] (fun iv wr=> ∃(a:Nat) (L:List Int),a<=40/\iv= .int .i64 a/\Hid (IB wr w.heap.size 168 L)/\Hid (Tbl L ring a 0)/\Hid (Below w.heap.size w wr)) (fun iv _=>40-(intOf iv).toNat)
 case atStart=>exact⟨0,L0,by omega,rfl,I0,T0,B0⟩
 case round=>
  clear I0 T0 B0
  obtain⟨a,L,ha,rfl,HI,HT,HB⟩:=hrel
  obtain⟨wo,rfl⟩: ∃wo:World,wo=wr:=⟨_,rfl⟩
  by_cases hlt:a<40
  ·have hdec:decide ((a:Int)<40)=true:=by simp;omega
   go_wp2
   go_loopw [13] (fun iv wr=> ∃(b:Nat) (L:List Int),b<=a+1/\iv= .int .i64 b/\Hid (IB wr w.heap.size 168 L)/\Hid (Tbl L ring a b)/\Hid (Below w.heap.size w wr)) (fun iv _=>a+1-(intOf iv).toNat)
   case atStart=>exact⟨0,L,by omega,rfl,HI,HT,HB⟩
   case round=>
    clear HI HT HB
    obtain⟨b,L,hb,rfl,HI,HT,HB⟩:=hrel
    by_cases hlb:b<a+1
    ·have KX:=hid (KE.out wr ((HR.out.below HB.out).more HB.out.size) a b hlt (by omega))
     have LT:=hid (HT.out.set_ hlt (by omega:b<=a))
     generalize en0 ring a b=x at*
     go_wp2_with fail
     refine KX.out.mono ?_
     rintro e w1 ⟨rfl,hB⟩
     have I1:=hid (Blk.below' HI.out hB)
     have B1:=hid (HB.out.trans (hB.mono HB.out.size))
     clear hB HI HB KX KE
     have c1:=IB.cell I1.out (a*40+b) (by rw[HT.out.len];omega)
     have c2:=IB.cell I1.out (b*40+a) (by rw[HT.out.len];omega)
     have f1:=Blk.frozen I1.out (a*40+b)
     have f2:=Blk.frozen I1.out (b*40+a)
     have i1:(a:Int)<40:=by omega
     have i2:(b:Int)<40:=by omega
     have i3:(0:Int)<=a:=by omega
     have i4:(0:Int)<=b:=by omega
     obtain⟨v1,hv1⟩:=cell?_setCell_some (w:=w1) (p:=⟨w.heap.size,a*40+b,none⟩) (x:= .int .i64 x) (q:=⟨w.heap.size,b*40+a,none⟩) c2
     obtain⟨v2,hv2⟩:=cell?_setCell_some (w:=w1) (p:=⟨w.heap.size,b*40+a,none⟩) (x:= .int .i64 x) (q:=⟨w.heap.size,a*40+b,none⟩) c1
     have NI:=hid (IB.set_ (IB.set_ I1.out (a*40+b) x) (b*40+a) x)
     have NB:=hid ((B1.out.setCell (p:=⟨w.heap.size,a*40+b,none⟩) (Nat.le_refl _) (.int .i64 x)).setCell (p:=⟨w.heap.size,b*40+a,none⟩) (Nat.le_refl _) (.int .i64 x))
     clear I1 B1
     go_wp2
     go_region
     clear c1 c2 f1 f2 hv1 hv2
     go_wp2
     go_roundw
     case rel=>exact⟨b+1,_,by omega,by go_num,hid (Blk.drew NI.out),LT,hid NB.out.drew⟩
     case measure=>simp[intOf]<;>omega
    ·obtain rfl:b=a+1:=by omega
     go_wp2
     go_roundw
     case rel=>exact⟨a+1,L,by omega,by go_num,HI,hid HT.out.next,HB⟩
     case measure=>simp[intOf]<;>omega
  ·obtain rfl:a=40:=by omega
   go_wp2
   go_ret
   exact⟨L,rfl,HI.out,HT.out,HB.out⟩
theorem score_any (A:Option Addr) (c g:Nat) (d ring ix L:List Int) (w:World) (hd:Rs w w.heap.size A d) (dl:d.length=40) (dw:W64 d) (hL:IB w g 168 L) (ht:Tbl L ring 40 0) (hx:Ix ix):
 Calls Tryd.prog 97 #[.slice A 40 c,.pointer (some ⟨g,0,none⟩),.agg (agi ix)] w (fun e w'=>e= .returned (.tuple #[.int .i64 (scC d ix 4),.int .i64 (scE d ring ix)])/\Below w.heap.size w w'):=by
 have HIX:=hid (fun(k:Nat) (hk:k<4) (w:World)=>run_index_agi Tryd.underlying72 ix hx.1 k hk w)
 have BA:=hid ((Below.refl w.heap.size w).alloc (Nat.le_refl _) (.cells (agi ix) 72))
 have I0:=hid (IB.new w 72 ix)
 have HD:=hid ((hd.below BA.out).more BA.out.size)
 have HL:=hid (show IB (w.alloc (.cells (agi ix) 72)) g 168 L from Blk.alloc hL _)
 have HT:=hid ht
 have DL:=hid dl
 have DW:=hid dw
 have OK:=hid hx.2
 have X4:=hid hx.1
 have KS:=hid (fun(x:Int) W=>sign_any x W)
 clear hd dl dw hL ht hx
 go_enter Tryd.func97,Tryd.ntmps97
 go_wp2_with (first
  |(refine wpList_loadI rfl 72 (.tmp 5) rfl _ 72 ix 4 _ rfl I0.out Tryd.underlying72 rfl size4i X4.out ?_))
 obtain⟨V,hV⟩: ∃V,V=w.alloc (.cells (agi ix) 72):=⟨_,rfl⟩
 rw[<-hV] at I0 HD HL BA|-
 clear hV
 go_loopw [8,9,17] (fun cv ev iv wr=> ∃(i:Nat) (e:Int),i<=4/\iv= .int .i64 i/\cv= .int .i64 (scC d ix i)/\ev= .int .i64 e/\Hid (e=sumN (scR d ring ix) i)/\Hid (Below V.heap.size V wr)) (fun _ _ iv _=>4-(intOf iv).toNat)
 case atStart=>exact⟨0,0,by omega,rfl,rfl,rfl,hid rfl,hid (Below.refl _ _)⟩
 case round=>
  obtain⟨i,e,hi,rfl,rfl,rfl,HE,HB⟩:=hrel
  by_cases hlt:i<4
  ·have hI:=HIX.out i hlt
   have po:=okIx_at OK.out i
   obtain⟨q,hq⟩:=Int.eq_ofNat_of_zero_le po.1
   have pa:=plc_lt OK.out hlt
   have hpl:(i:Int)+4*(q:Nat)=(plc ix i:Nat):=by unfold plc;rw[hq];push_cast;rfl
   have SC:=hid (show scC d ix (i+1)=IntKind.i64.wrap (scC d ix i+IntKind.i64.wrap (sg d ix i*d.getD (plc ix i) 0)) from rfl)
   have SE:=hid (show sumN (scR d ring ix) (i+1)=e+scR d ring ix i by rw[HE.out];rfl)
   have er:=scE_part d ring ix i (by omega)
   rw[<-HE.out] at er
   have e1: -687194767360<=e:=er.1
   have e2:e<=687194767360:=er.2
   rw[hq] at hI po
   have SG:=hid (show sg d ix i=sgp (d.getD (plc ix i) 0) from rfl)
   have ST:=hid (fun j=>show scT d ring ix i j=sg d ix i*sg d ix j*en0 ring (plc ix i) (plc ix j) from rfl)
   have SR:=hid (show scR d ring ix i=sumN (scT d ring ix i) 4 from rfl)
   have SB:=hid (fun j hj=>scR_part d ring ix i j hj)
   have I1:=hid (Blk.below' I0.out HB.out)
   have D1:=hid ((HD.out.below HB.out).more HB.out.size)
   have L1:=hid (Blk.below' HL.out HB.out)
   obtain⟨a,ha⟩: ∃a,a=plc ix i:=⟨_,rfl⟩
   rw[<-ha] at hpl pa SC SG ST
   obtain⟨ad,rfl,hadb,c0⟩:=D1.out.at_ (k:=a) (by rw[DL.out];exact pa)
   obtain⟨x,hx⟩: ∃x,x=d.getD a 0:=⟨_,rfl⟩
   rw[<-hx] at c0 SC SG
   have KX:=hid (fun W=>KS.out x W)
   obtain⟨s,hs⟩: ∃s,s=sgp x:=⟨_,rfl⟩
   rw[<-hs] at KX SG
   rw[SG.out] at SC ST
   have s2:s=1\/s= -1:=by rw[hs];exact sgp_two x
   have HA:=hid ha
   have HQ:=hid hq
   have HS:=hid hs
   have HX:=hid hx
   have S2:=hid s2
   generalize scC d ix i=cc at*
   have q9:(q:Int)<=9:=po.2
   have a40:(a:Int)<40:=by omega
   have a0:(0:Int)<=a:=by omega
   have hw0:IntKind.i64.wrap (4*(q:Int))=4*(q:Int):=by rw[IntKind.wrap_i64];omega
   have hdec:decide ((i:Int)<4)=true:=by simp;omega
   clear po ha hq hs hx er s2 HD HL
   obtain⟨wo,hwo⟩: ∃wo:World,wo=wr:=⟨_,rfl⟩
   rw[<-hwo] at I1 D1 L1 HB c0|-
   clear hwo
   go_wp2
   go_quiet ((go_at_call 101;(with_reducible exact Calls.quiet_of_same (KX.out _))))
   rename_i nq
   have I2:=hid (show IB (wo.drewN nq) w.heap.size 72 ix from I1.out)
   have B2:=hid (HB.out.trans ((below_drN wo nq).mono HB.out.size))
   have D2:=hid (show Rs (wo.drewN nq) (wo.drewN nq).heap.size (some ad) d from D1.out)
   have L2:=hid (show IB (wo.drewN nq) g 168 L from L1.out)
   clear I1 HB D1 L1 c0
   generalize wo.drewN nq=w2 at*
   go_wp2_with (first
    |(refine wpList_loadI rfl 72 (.tmp 5) rfl _ 72 ix 4 _ rfl I2.out Tryd.underlying72 rfl size4i X4.out ?_))
   go_loopw [9,38] (fun ev jv wr=> ∃(j:Nat) (f:Int),j<=4/\jv= .int .i64 j/\ev= .int .i64 f/\Hid (f=e+sumN (scT d ring ix i) j)/\Hid (Below V.heap.size V wr)/\Hid (Rs wr wr.heap.size (some ad) d)/\Hid (IB wr g 168 L)) (fun _ jv _=>4-(intOf jv).toNat)
   case atStart=>exact⟨0,e,by omega,rfl,rfl,hid (by simp[sumN]),B2,D2,L2⟩
   case round=>
    clear B2 D2 L2 I2
    obtain⟨j,f,hj,rfl,rfl,HF,HB,D1,L1⟩:=hrel
    by_cases hltj:j<4
    ·have hJ:=HIX.out j hltj
     have po:=okIx_at OK.out j
     obtain⟨r,hr⟩:=Int.eq_ofNat_of_zero_le po.1
     have pb:=plc_lt OK.out hltj
     have hpj:(j:Int)+4*(r:Nat)=(plc ix j:Nat):=by unfold plc;rw[hr];push_cast;rfl
     rw[hr] at hJ po
     have SJ:=hid (show sg d ix j=sgp (d.getD (plc ix j) 0) from rfl)
     have er:=en0_range ring a (plc ix j)
     have TJ:=ST.out j
     have CT:=IB.cell L1.out (a*40+plc ix j) (by rw[HT.out.len];omega)
     rw[HT.out.get pa pb] at CT
     obtain⟨b,hb⟩: ∃b,b=plc ix j:=⟨_,rfl⟩
     rw[<-hb] at hpj pb SJ er TJ CT
     obtain⟨ad2,had2,_,c0⟩:=D1.out.at_ (k:=a) (by rw[DL.out];exact pa)
     obtain⟨ad3,had3,_,c1⟩:=D1.out.at_ (k:=b) (by rw[DL.out];exact pb)
     injection had2 with had2
     injection had3 with had3
     subst had2
     subst had3
     rw[<-HX.out] at c0
     obtain⟨y,hy⟩: ∃y,y=d.getD b 0:=⟨_,rfl⟩
     rw[<-hy] at c1 SJ
     have KY:=hid (fun W=>KS.out y W)
     obtain⟨u,hu⟩: ∃u,u=sgp y:=⟨_,rfl⟩
     rw[<-hu] at KY SJ
     rw[SJ.out] at TJ
     have u2:u=1\/u= -1:=by rw[hu];exact sgp_two y
     have s2:=S2.out
     generalize en0 ring a b=z at*
     have p1:s*u=1\/s*u= -1:=by rcases s2 with rfl|rfl<;>rcases u2 with rfl|rfl<;>decide
     have p2:=sg_mul p1 er
     have SB1:=SB.out j (by omega)
     have NF:=hid (show f+s*u*z=e+sumN (scT d ring ix i) (j+1) by rw[HF.out,sumN,TJ];omega)
     have hf:=HF.out
     have hw1:IntKind.i64.wrap (s*u)=s*u:=by rw[IntKind.wrap_i64];omega
     have hw2:IntKind.i64.wrap (s*u*z)=s*u*z:=by rw[IntKind.wrap_i64];omega
     have hw3:IntKind.i64.wrap (f+s*u*z)=f+s*u*z:=by rw[IntKind.wrap_i64];omega
     have hw4:IntKind.i64.wrap (4*(r:Int))=4*(r:Int):=by rw[IntKind.wrap_i64];omega
     have r9:(r:Int)<=9:=po.2
     have b40:(b:Int)<40:=by omega
     have b0:(0:Int)<=b:=by omega
     have HBB:=hid hb
     have HY:=hid hy
     have HU:=hid hu
     clear po hb hy hu er u2 s2 p1 p2 SB1 hf hr
     obtain⟨wo2,hwo2⟩: ∃wo2:World,wo2=wr:=⟨_,rfl⟩
     rw[<-hwo2] at D1 L1 HB c0 c1 CT|-
     clear hwo2
     go_wp2
     go_quiet ((go_at_call 101;first|(with_reducible exact Calls.quiet_of_same (KX.out _))|(with_reducible exact Calls.quiet_of_same (KY.out _))))
     have B3:=hid (fun N=>HB.out.trans ((below_drN wo2 N).mono HB.out.size))
     have D3:=hid (fun N=>show Rs (wo2.drewN N) (wo2.drewN N).heap.size (some ad) d from D1.out)
     have L3:=hid (fun N=>show IB (wo2.drewN N) g 168 L from L1.out)
     clear HB D1 L1 c0 c1 CT hw1 hw2 hw3
     go_wp2
     go_roundw
     case rel=>exact⟨j+1,_,by omega,by go_num,rfl,NF,hid (B3.out _),hid (D3.out _),hid (L3.out _)⟩
     case measure=>simp[intOf]<;>omega
    ·obtain rfl:j=4:=by omega
     have NE:=hid (show f=sumN (scR d ring ix) (i+1) by rw[HF.out,SE.out,SR.out])
     go_wp2
     go_roundw
     case rel=>exact⟨i+1,f,by omega,by go_num,by rw[SC.out];first|rfl|(simp only[wrap64,IntKind.wrap_i64]),rfl,NE,HB⟩
     case measure=>simp[intOf]<;>omega
  ·obtain rfl:i=4:=by omega
   go_wp2
   go_ret2
   exact⟨by rw[HE.out];rfl,BA.out.trans (HB.out.mono BA.out.size)⟩
end Go.Proofs.YthoiikkjjaldnaaDoor
namespace Go.Proofs.YthoiikkjjaldnaaDoor
set_option linter.unusedVariables false
set_option linter.unusedSimpArgs false
set_option maxRecDepth 100000
open Go.RowKit
theorem or64 {z p:Nat} (e:z|||p=z+p) (h:z+p<4294967296):bits BinOp.or IntKind.i64 (z:Nat) (p:Nat)=((z+p:Nat):Int):=by
 have hlt:(BitVec.ofInt 64 (z:Int)|||BitVec.ofInt 64 (p:Int)).toNat=z+p:=by
  rw[BitVec.ofInt_natCast,BitVec.ofInt_natCast,BitVec.toNat_or,BitVec.toNat_ofNat,BitVec.toNat_ofNat,Nat.mod_eq_of_lt (by omega),Nat.mod_eq_of_lt (by omega),e]
 show IntKind.i64.wrap ((BitVec.ofInt 64 (z:Int)|||BitVec.ofInt 64 (p:Int)).toNat:Int)=_
 rw[hlt,IntKind.wrap_i64]
 omega
end Go.Proofs.YthoiikkjjaldnaaDoor
namespace Go.Proofs.YthoiikkjjaldnaaDoor
set_option linter.unusedVariables false
set_option linter.unusedSimpArgs false
set_option maxRecDepth 100000
open Go.RowKit
theorem list4: ∀{l:List Int} (_:l.length=4),∃a b c d,l=[a,b,c,d]
 |[a,b,c,d],_=>⟨a,b,c,d,rfl⟩
def ScAns (d ring ix:List Int) (w:World) (e:Ending) (w':World):Prop:=e= .returned (.tuple #[.int .i64 (scCv d ring ix),.int .i64 (scEv d ring ix),.int .i64 (scErr d ring ix)])/\Below w.heap.size w w'
theorem ScAns.bad {d ring ix:List Int} {w w':World} {er:Int} (he:scErr d ring ix=er) (h0:er≠0) (hB:Below w.heap.size w w'):ScAns d ring ix w (.returned (.tuple #[.int .i64 0,.int .i64 0,.int .i64 er])) w':=
 ⟨by unfold scCv scEv;rw[he,if_neg h0,if_neg h0],hB⟩
theorem ScAns.good {d ring ix:List Int} {w w':World} (he:scErr d ring ix=0) (hB:Below w.heap.size w w'):ScAns d ring ix w (.returned (.tuple #[.int .i64 (scC d ix 4),.int .i64 (scE d ring ix),.int .i64 0])) w':=
 ⟨by unfold scCv scEv;rw[he,if_pos rfl,if_pos rfl],hB⟩
end Go.Proofs.YthoiikkjjaldnaaDoor
