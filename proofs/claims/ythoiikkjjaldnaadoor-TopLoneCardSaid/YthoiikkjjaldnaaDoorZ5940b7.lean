/- Texts that the law rests on, laid together: CoW, SignW. -/
import Derived.Test.YthoiikkjjaldnaaDoorZ6782c5
import Derived.Test.YthoiikkjjaldnaaDoorZ111339
import Derived.Test.YthoiikkjjaldnaaDoorZ840156
import Derived.Test.YthoiikkjjaldnaaDoorZ428645
set_option maxHeartbeats 4000000
namespace Go.Proofs.YthoiikkjjaldnaaDoor
set_option linter.unusedVariables false
set_option linter.unusedSimpArgs false
set_option maxRecDepth 100000
open Go.RowKit
def msK (a:List Int) (m:Mm):Nat->Mm
 |0=>m
 |k+1=>stM a (msK a m k) k
def ysK (a:List Int) (m:Mm):Nat->List Int
 |0=>[]
 |k+1=>ysK a m k++stY a (msK a m k) k
theorem msK_ok {a:List Int} {m:Mm} (k:m.ok) (n:Nat):(msK a m n).ok:=by
 induction n with
 |zero=>exact k
 |succ n ih=>exact stM_ok ih _ _
theorem ysK_len (a:List Int) (m:Mm) (n:Nat):(ysK a m n).length<=40*n:=by
 induction n with
 |zero=>exact Nat.le_refl _
 |succ n ih=>
  have:=stY_len a (msK a m n) n
  rw[ysK,List.length_append]
  omega
structure Ec (w wr:World) (m:Mm) (g:Nat) (a:List Int):Prop where
 M:Ms w wr m
 F:IB wr g 69 a
 lt:w.heap.size+2<=g
section
variable {w wr w':World} {m mm:Mm} {g:Nat} {a:List Int}
theorem Ec.below (s:Ec w wr m g a) (hb:Below wr.heap.size wr w'):Ec w w' m g a:=⟨s.M.below hb,Blk.below' s.F hb,s.lt⟩
theorem Ec.setA (s:Ec w wr m g a):Ec w (wr.setRow w.heap.size mm.ag) mm g a:=⟨s.M.setA,Blk.rowFar s.F (by have:=s.lt;omega),s.lt⟩
theorem Ec.alloc (s:Ec w wr m g a) (o:Obj):Ec w (wr.alloc o) m g a:=s.below ((Below.refl _ _).alloc (Nat.le_refl _) o)
theorem Ec.grown {A:Option Addr} {c:Nat} {xs:List Int} (s:Ec w wr m g a) (hO:Own wr (g+1) A c xs) (hG:wr.grownBy w' (A.map (·.block))):Ec w w' m g a:=by
 have h1:=s.lt
 have h2:g<wr.heap.size:=Blk.lt s.F
 exact⟨⟨Blk.grownA s.M.A hG (hO.ne_ (by omega)),Blk.grownA s.M.R hG (hO.ne_ (by omega)),below_grown s.M.bel (hO.more (base':=w.heap.size) (by omega)) hG (by omega)⟩,Blk.grownA s.F hG (hO.ne_ (by omega)),s.lt⟩
theorem Ec.glt (s:Ec w wr m g a):g<wr.heap.size:=Blk.lt s.F
end
theorem erase_any (m:Mm) (k:m.ok) (w:World):Calls Tryd.prog 16 #[.agg m.ag] w (NewM w (coM m) (coY m) (errOf (goodM m))):=by
 have hR:=results_mem3 (fn:=Tryd.f16) (p:=2) (q:=3) (r:=4) rfl
 have S0:=hid (Ms.start w m)
 have K:=hid k
 have KG:=hid (fun W=>good_any m k W)
 have KD:=hid (fun W=>show Calls Tryd.prog 36 #[.agg (ints m.r).toArray] W (Dirs W m.r) from direct_any m.r W k.r)
 have KX:=hid (fun W=>expand_any (dirL m.r) 32440 W (dirL_len _))
 have FR:=hid (show coM m=if goodM m then msK (eraA m) m 2 else zeroM from rfl)
 have FY:=hid (show coY m=if goodM m then ysK (eraA m) m 2 else[] from by unfold coY ysK ysK ysK;rfl)
 have hi8:(Tryd.prog.info? 27).map (·.size)=some (ints m.r).length:=by rw[ints_len,k.r];exact size8'
 have HI8:=hid hi8
 have DL:=hid (dirL_len m.r)
 have EL:=hid (show(eraA m).length=9 from exL_len _ _)
 clear k hi8
 go_enter Tryd.func16,Tryd.ntmps16
 go_wp2_with (refine wpList_loadM rfl (.tmp 1) rfl _ m rfl S0.out.A K.out ?_)
 refine(KG.out _).mono ?_
 rintro e w1 ⟨rfl,hB⟩
 have S1:=hid (S0.out.below hB)
 clear hB S0 KG
 cases hg:goodM m with
 |false=>
  have HG:=hid hg
  clear hg
  have hRow:=hid (MB.setRow S1.out.R zeroM)
  have FIN:=hid (below_setRow S1.out.bel (g:=w.heap.size+1) (by omega) zeroM.ag)
  go_wp2_with (refine wpList_storeM rfl (.tmp 2) (.tmp 14) rfl _ zeroM zeroM rfl (congrArg Value.agg zeroM_ag) S1.out.R zeroM_ok zeroM_ok ?_)
  refine bodyPost_ret (v:=_) (hR _ _ _ zeroM rfl hRow.out zeroM_ok) rfl ?_
  rw[FR.out,FY.out,HG.out]
  exact⟨none,0,rfl,Own.nil,FIN.out⟩
 |true=>
  have HG:=hid hg
  clear hg
  go_wp2_with (refine wpList_load_mid rfl 27 (.tmp 16) rfl _ _ rfl (ints m.r) _ (S1.out.A.R K.out) Tryd.underlying27 rfl HI8.out ?_)
  refine(KD.out _).mono ?_
  rintro e w2 ⟨rfl,hB⟩
  have S2:=hid (S1.out.below hB)
  clear hB S1 KD
  obtain⟨d,hd⟩: ∃d,d=dirL m.r:=⟨_,rfl⟩
  obtain⟨a,ha⟩: ∃a,a=eraA m:=⟨_,rfl⟩
  have hx:exL d 32440=a:=by rw[ha,hd];rfl
  have KX2: ∀W,Calls Tryd.prog 37 #[.agg (agi d),.int .i64 32440] W (fun e w'=>e= .returned (.tuple #[.agg (agi a),.int .i64 (errOf (exB d 32440))])/\Below W.heap.size W w'):=fun W=>by
   have:=KX.out W
   unfold Exps at this
   rw[<-hd,hx] at this
   exact this
  have KX2:=hid KX2
  clear KX
  rename_i KXr
  clear KXr
  rw[<-hd] at DL|-
  rw[<-ha] at FR FY EL
  clear hd ha hx
  go_wp2_with (first
   |(refine wpList_storeI rfl 69 (.tmp 5) (.tmp 19) rfl _ 69 Z9 d 9 rfl rfl (IB.new w2 69 Z9) size9 rfl DL.out ?_
     have B3:=below_stored w2 (.cells (agi Z9) 69) (agi d)
     obtain⟨w3,hw3⟩: ∃w3,w3=(w2.alloc (.cells (agi Z9) 69)).setRow w2.heap.size (agi d):=⟨_,rfl⟩
     have S3:=hid (show Ms w w3 m by rw[hw3];exact S2.out.below B3)
     have F3:=hid (show IB w3 w2.heap.size 69 d by rw[hw3];exact IB.stored w2 69 Z9 d)
     rw[z9_eq] at hw3
     rw[<-hw3]
     clear hw3 B3)
   |(refine wpList_loadI rfl 69 (.tmp 5) rfl _ 69 d 9 _ rfl F3.out Tryd.underlying69 rfl size9 DL.out ?_))
  refine(KX2.out _).mono ?_
  rintro e w4 ⟨rfl,hB⟩
  have S4:=hid (S3.out.below hB)
  have F4:=hid (Blk.below' F3.out hB)
  have GL:=hid S2.out.lt
  obtain⟨g5,hg5⟩: ∃g5,g5=w2.heap.size:=⟨_,rfl⟩
  rw[<-hg5] at F4 GL|-
  clear hB S2 S3 F3 hg5 KX2
  have E5:=hid (show Ec w (w4.setRow g5 (agi a)) m g5 a from⟨⟨Blk.rowFar S4.out.A (by have:=GL.out;omega),Blk.rowFar S4.out.R (by have:=GL.out;omega),below_setRow S4.out.bel (by have:=GL.out;omega) _⟩,IB.setRow F4.out a,GL.out⟩)
  go_wp2_with (refine wpList_storeI rfl 69 (.tmp 5) (.tmp 24) rfl _ 69 d a 9 rfl rfl F4.out size9 DL.out EL.out ?_)
  generalize w4.setRow g5 (agi a)=w5 at E5|-
  clear S4 F4
  go_loopw [7,26] (fun ov iv wr=> ∃(k:Nat) (A:Option Addr) (c n:Nat),k<=2/\iv= .int .i64 k/\ov= .slice A n c/\Hid ((ysK a m k).length=n)/\Hid (Own wr (g5+1) A c (ysK a m k))/\Hid (Ec w wr (msK a m k) g5 a)) (fun _ iv _=>2-(intOf iv).toNat)
  case atStart=>exact⟨0,none,0,0,by omega,rfl,rfl,hid rfl,hid Own.nil,E5⟩
  case round=>
   clear E5
   obtain⟨k,A,c,n,hk,rfl,rfl,HN,HO,HC⟩:=hrel
   by_cases hlt:k<2
   ·have KO:=hid (msK_ok (a:=a) K.out k)
    have KE:=hid (fun W=>erased_any (msK a m k) KO.out k W)
    have K1:=hid (eraR_ok KO.out (k:Int))
    have KP:=hid (fun W A c (h:Rs W W.heap.size A (eraY (msK a m k) k))=>show Calls Tryd.prog 39 #[.agg (eraR (msK a m k) k).ag,.agg (agi a),.slice A (eraY (msK a m k) k).length c] W (PlayA W (stM a (msK a m k) k) (stY a (msK a m k) k)) from play_any (eraR (msK a m k) k) K1.out a _ A c _ W EL.out h rfl (eraY_len _ _))
    have K2:=hid (stM_ok KO.out a k)
    have YL:=hid (stY_len a (msK a m k) k)
    have NM:=hid (show msK a m (k+1)=stM a (msK a m k) k from rfl)
    have NY:=hid (show ysK a m (k+1)=ysK a m k++stY a (msK a m k) k from rfl)
    have YN:=hid (ysK_len a m k)
    generalize stM a (msK a m k) k=m2 at*
    generalize stY a (msK a m k) k=y at*
    generalize eraR (msK a m k) k=m1 at*
    generalize eraY (msK a m k) k=x at*
    generalize errOf (eraB (msK a m k) k)=er at*
    generalize msK a m k=mk at*
    generalize ysK a m k=ys at*
    go_wp2_with (refine wpList_loadM rfl (.tmp 1) rfl _ mk rfl HC.out.M.A KO.out ?_)
    refine(KE.out _).mono ?_
    rintro e w6 ⟨A6,c6,rfl,hO,hB⟩
    have C6:=hid (HC.out.below hB)
    have O6:=hid (HO.out.below hB)
    have SZ6:=hid hB.size
    have X6:=hid hO
    have GT:=hid HC.out.glt
    clear hO hB HC HO KE
    have C7:=hid (C6.out.setA (mm:=m1))
    have O7:=hid (O6.out.setRow (g:=w.heap.size) (by have:=C6.out.lt;omega) m1.ag)
    have X7:=hid (X6.out.setRow (g:=w.heap.size) (by have:=C6.out.lt;have:=GT.out;omega) m1.ag).reads
    obtain⟨w7,hw7⟩: ∃w7,w7=w6.setRow w.heap.size m1.ag:=⟨_,rfl⟩
    rw[<-hw7] at C7 O7 X7
    have HW7:=hid hw7
    clear hw7
    go_wp2_with (first
     |(refine wpList_storeM rfl (.tmp 1) (.tmp 33) rfl _ mk m1 rfl rfl C6.out.M.A KO.out K1.out ?_;rw[<-HW7.out])
     |(refine wpList_loadM rfl (.tmp 1) rfl _ m1 rfl C7.out.M.A K1.out ?_)
     |(refine wpList_loadI rfl 69 (.tmp 5) rfl _ 69 a 9 _ rfl C7.out.F Tryd.underlying69 rfl size9 EL.out ?_))
    refine(KP.out _ _ _ X7.out).mono ?_
    rintro e w8 ⟨A8,c8,rfl,hO,hB⟩
    have C8:=hid (C7.out.below hB)
    have O8:=hid (O7.out.below hB)
    have GT8:=hid C7.out.glt
    have X8:=hid hO
    clear hO hB C6 C7 O6 O7 X6 X7 KP HW7
    have C9:=hid (C8.out.setA (mm:=m2))
    have O9:=hid (O8.out.setRow (g:=w.heap.size) (by have:=C8.out.lt;omega) m2.ag)
    have X9:=hid (X8.out.setRow (g:=w.heap.size) (by have:=C8.out.lt;have:=GT8.out;omega) m2.ag).reads
    obtain⟨w9,hw9⟩: ∃w9,w9=w8.setRow w.heap.size m2.ag:=⟨_,rfl⟩
    rw[<-hw9] at C9 O9 X9
    have HW9:=hid hw9
    clear hw9
    have GT9:=hid C9.out.glt
    go_wp2_with (first
     |(refine wpList_storeM rfl (.tmp 1) (.tmp 41) rfl _ m1 m2 rfl rfl C8.out.M.A K1.out K2.out ?_;rw[<-HW9.out])
     |(at_builtin;refine wpList_catN rfl (.tmp 43) (.tmp 44) rfl (g5+1) A c n ys rfl HN.out O9.out w9.heap.size A8 c8 y.length y rfl rfl X9.out (by have:=YL.out;have:=YN.out;have:=HN.out;omega) (by have:=GT9.out;omega) ?_;intro A10 c10 w10 hO hG hA;have C10:=hid (C9.out.grown O9.out hG);have O10:=hid hO;clear hO hG hA))
    go_roundw
    case rel=>exact⟨k+1,A10,c10,n+y.length,by omega,by go_num,rfl,hid (by rw[NY.out,List.length_append,HN.out]),hid (by rw[NY.out];exact O10.out),hid (by rw[NM.out];exact C10.out)⟩
    case measure=>simp[intOf]<;>omega
   ·obtain rfl:k=2:=by omega
    have OKS:=hid (msK_ok (a:=a) K.out 2)
    have hRow:=hid (MB.setRow HC.out.M.R (msK a m 2))
    have FIN:=hid (below_setRow HC.out.M.bel (g:=w.heap.size+1) (by omega) (msK a m 2).ag)
    have OF:=hid ((HO.out.setRow (g:=w.heap.size+1) (by have:=HC.out.lt;omega) (msK a m 2).ag).more (base':=w.heap.size) (by have:=HC.out.lt;omega))
    generalize msK a m 2=mf at*
    generalize ysK a m 2=yf at*
    go_wp2_with (first
     |(refine wpList_loadM rfl (.tmp 1) rfl _ mf rfl HC.out.M.A OKS.out ?_)
     |(refine wpList_storeM rfl (.tmp 2) (.tmp 47) rfl _ zeroM mf rfl rfl HC.out.M.R zeroM_ok OKS.out ?_))
    refine bodyPost_ret (v:=_) (hR _ _ _ mf rfl hRow.out OKS.out) rfl ?_
    rw[FR.out,FY.out,HG.out]
    exact⟨A,c,by rw[if_pos rfl,if_pos rfl,HN.out];rfl,by rw[if_pos rfl];exact OF.out,FIN.out⟩
end Go.Proofs.YthoiikkjjaldnaaDoor
namespace Go.Proofs.YthoiikkjjaldnaaDoor
set_option linter.unusedVariables false
set_option linter.unusedSimpArgs false
set_option maxRecDepth 100000
open Go.RowKit
theorem or_low {s i:Nat} (h:s<2^i):s|||2^i=s+2^i:=by
 have:=Nat.two_pow_add_eq_or_of_lt h 1
 rw[Nat.mul_one] at this
 rw[Nat.or_comm,<-this,Nat.add_comm]
theorem signs_any (A:Option Addr) (c:Nat) (d x:List Int) (w:World) (hd:Rs w w.heap.size A d) (dl:d.length=40) (hx:Ix x):
 Calls Tryd.prog 88 #[.slice A 40 c,.agg (agi x)] w (fun e w'=>e= .returned (.int .i64 (sgnB d x 4))/\Below w.heap.size w w'):=by
 have HIX:=hid (fun(k:Nat) (hk:k<4) (w:World)=>run_index_agi Tryd.underlying72 x hx.1 k hk w)
 have BA:=hid ((Below.refl w.heap.size w).alloc (Nat.le_refl _) (.cells (agi x) 72))
 have I0:=hid (IB.new w 72 x)
 have HD:=hid ((hd.below BA.out).more BA.out.size)
 have DL:=hid dl
 have OK:=hid hx.2
 have X4:=hid hx.1
 clear hd dl hx
 go_enter Tryd.func88,Tryd.ntmps88
 go_wp2_with (refine wpList_loadI rfl 72 (.tmp 3) rfl _ 72 x 4 _ rfl I0.out Tryd.underlying72 rfl size4i X4.out ?_)
 generalize w.alloc (.cells (agi x) 72)=V at I0 HD BA|-
 go_loop [5,9] (fun sv iv=> ∃i:Nat,i<=4/\iv= .int .i64 i/\sv= .int .i64 ((sgnN d x i:Nat):Int)) (fun _ iv=>4-(intOf iv).toNat)
 case atStart=>exact⟨0,by omega,rfl,rfl⟩
 case round=>
  obtain⟨i,hi,rfl,rfl⟩:=hrel
  by_cases hlt:i<4
  ·have hi4:i=0\/i=1\/i=2\/i=3:=by omega
   clear hlt hi
   rcases hi4 with rfl|rfl|rfl|rfl
   ·have hI:=HIX.out 0 (by omega)
    rw[show((0:Nat):Int)=(0:Int) from rfl] at hI
    have po:=okIx_at OK.out 0
    obtain⟨q,hq⟩:=Int.eq_ofNat_of_zero_le po.1
    have pa:=plc_lt OK.out (t:=0) (by omega)
    have hpl:(0:Int)+4*(q:Nat)=(plc x 0:Nat):=by unfold plc;rw[hq];push_cast;rfl
    rw[hq] at hI po
    try simp only[Int.zero_add] at hpl
    have SG:=hid (show sgnN d x (0+1)=if 0<=d.getD (plc x 0) 0 then sgnN d x 0+2^0 else sgnN d x 0 from rfl)
    have SL:=sgnN_lt d x 0
    obtain⟨a,ha⟩: ∃a,a=plc x 0:=⟨_,rfl⟩
    rw[<-ha] at hpl pa SG
    obtain⟨ad,rfl,hadb,c0⟩:=HD.out.at_ (k:=a) (by rw[DL.out];exact pa)
    generalize d.getD a 0=y at*
    generalize sgnN d x 0=s at*
    have hor:bits BinOp.or IntKind.i64 (s:Nat) 1=((s+1:Nat):Int):=by
     have:=or64 (z:=s) (p:=1) (or_low (i:=0) SL) (by have:s<1:=SL;omega)
     exact this
    have q9:(q:Int)<=9:=po.2
    have a40:(a:Int)<40:=by omega
    have a0:(0:Int)<=a:=by omega
    have HA:=hid ha
    have HQ:=hid hq
    clear po ha hq SL
    by_cases hy:0<=y
    ·have hd:decide (0<=y)=true:=by simpa using hy
     have NS:=hid (show sgnN d x (0+1)=s+1 by rw[SG.out,if_pos hy])
     clear hy
     go_wp2
     go_round
     case rel=>exact⟨0+1,by omega,by go_num,by rw[NS.out]<;>rfl⟩
     case measure=>simp[intOf]<;>omega
    ·have hd:decide (0<=y)=false:=by simp;omega
     have NS:=hid (show sgnN d x (0+1)=s by rw[SG.out,if_neg hy])
     clear hy
     go_wp2
     go_round
     case rel=>exact⟨0+1,by omega,by go_num,by rw[NS.out]<;>rfl⟩
     case measure=>simp[intOf]<;>omega
   ·have hI:=HIX.out 1 (by omega)
    rw[show((1:Nat):Int)=(1:Int) from rfl] at hI
    have po:=okIx_at OK.out 1
    obtain⟨q,hq⟩:=Int.eq_ofNat_of_zero_le po.1
    have pa:=plc_lt OK.out (t:=1) (by omega)
    have hpl:(1:Int)+4*(q:Nat)=(plc x 1:Nat):=by unfold plc;rw[hq];push_cast;rfl
    rw[hq] at hI po
    try simp only[Int.zero_add] at hpl
    have SG:=hid (show sgnN d x (1+1)=if 0<=d.getD (plc x 1) 0 then sgnN d x 1+2^1 else sgnN d x 1 from rfl)
    have SL:=sgnN_lt d x 1
    obtain⟨a,ha⟩: ∃a,a=plc x 1:=⟨_,rfl⟩
    rw[<-ha] at hpl pa SG
    obtain⟨ad,rfl,hadb,c0⟩:=HD.out.at_ (k:=a) (by rw[DL.out];exact pa)
    generalize d.getD a 0=y at*
    generalize sgnN d x 1=s at*
    have hor:bits BinOp.or IntKind.i64 (s:Nat) 2=((s+2:Nat):Int):=by
     have:=or64 (z:=s) (p:=2) (or_low (i:=1) SL) (by have:s<2:=SL;omega)
     exact this
    have q9:(q:Int)<=9:=po.2
    have a40:(a:Int)<40:=by omega
    have a0:(0:Int)<=a:=by omega
    have HA:=hid ha
    have HQ:=hid hq
    clear po ha hq SL
    by_cases hy:0<=y
    ·have hd:decide (0<=y)=true:=by simpa using hy
     have NS:=hid (show sgnN d x (1+1)=s+2 by rw[SG.out,if_pos hy])
     clear hy
     go_wp2
     go_round
     case rel=>exact⟨1+1,by omega,by go_num,by rw[NS.out]<;>rfl⟩
     case measure=>simp[intOf]<;>omega
    ·have hd:decide (0<=y)=false:=by simp;omega
     have NS:=hid (show sgnN d x (1+1)=s by rw[SG.out,if_neg hy])
     clear hy
     go_wp2
     go_round
     case rel=>exact⟨1+1,by omega,by go_num,by rw[NS.out]<;>rfl⟩
     case measure=>simp[intOf]<;>omega
   ·have hI:=HIX.out 2 (by omega)
    rw[show((2:Nat):Int)=(2:Int) from rfl] at hI
    have po:=okIx_at OK.out 2
    obtain⟨q,hq⟩:=Int.eq_ofNat_of_zero_le po.1
    have pa:=plc_lt OK.out (t:=2) (by omega)
    have hpl:(2:Int)+4*(q:Nat)=(plc x 2:Nat):=by unfold plc;rw[hq];push_cast;rfl
    rw[hq] at hI po
    try simp only[Int.zero_add] at hpl
    have SG:=hid (show sgnN d x (2+1)=if 0<=d.getD (plc x 2) 0 then sgnN d x 2+2^2 else sgnN d x 2 from rfl)
    have SL:=sgnN_lt d x 2
    obtain⟨a,ha⟩: ∃a,a=plc x 2:=⟨_,rfl⟩
    rw[<-ha] at hpl pa SG
    obtain⟨ad,rfl,hadb,c0⟩:=HD.out.at_ (k:=a) (by rw[DL.out];exact pa)
    generalize d.getD a 0=y at*
    generalize sgnN d x 2=s at*
    have hor:bits BinOp.or IntKind.i64 (s:Nat) 4=((s+4:Nat):Int):=by
     have:=or64 (z:=s) (p:=4) (or_low (i:=2) SL) (by have:s<4:=SL;omega)
     exact this
    have q9:(q:Int)<=9:=po.2
    have a40:(a:Int)<40:=by omega
    have a0:(0:Int)<=a:=by omega
    have HA:=hid ha
    have HQ:=hid hq
    clear po ha hq SL
    by_cases hy:0<=y
    ·have hd:decide (0<=y)=true:=by simpa using hy
     have NS:=hid (show sgnN d x (2+1)=s+4 by rw[SG.out,if_pos hy])
     clear hy
     go_wp2
     go_round
     case rel=>exact⟨2+1,by omega,by go_num,by rw[NS.out]<;>rfl⟩
     case measure=>simp[intOf]<;>omega
    ·have hd:decide (0<=y)=false:=by simp;omega
     have NS:=hid (show sgnN d x (2+1)=s by rw[SG.out,if_neg hy])
     clear hy
     go_wp2
     go_round
     case rel=>exact⟨2+1,by omega,by go_num,by rw[NS.out]<;>rfl⟩
     case measure=>simp[intOf]<;>omega
   ·have hI:=HIX.out 3 (by omega)
    rw[show((3:Nat):Int)=(3:Int) from rfl] at hI
    have po:=okIx_at OK.out 3
    obtain⟨q,hq⟩:=Int.eq_ofNat_of_zero_le po.1
    have pa:=plc_lt OK.out (t:=3) (by omega)
    have hpl:(3:Int)+4*(q:Nat)=(plc x 3:Nat):=by unfold plc;rw[hq];push_cast;rfl
    rw[hq] at hI po
    try simp only[Int.zero_add] at hpl
    have SG:=hid (show sgnN d x (3+1)=if 0<=d.getD (plc x 3) 0 then sgnN d x 3+2^3 else sgnN d x 3 from rfl)
    have SL:=sgnN_lt d x 3
    obtain⟨a,ha⟩: ∃a,a=plc x 3:=⟨_,rfl⟩
    rw[<-ha] at hpl pa SG
    obtain⟨ad,rfl,hadb,c0⟩:=HD.out.at_ (k:=a) (by rw[DL.out];exact pa)
    generalize d.getD a 0=y at*
    generalize sgnN d x 3=s at*
    have hor:bits BinOp.or IntKind.i64 (s:Nat) 8=((s+8:Nat):Int):=by
     have:=or64 (z:=s) (p:=8) (or_low (i:=3) SL) (by have:s<8:=SL;omega)
     exact this
    have q9:(q:Int)<=9:=po.2
    have a40:(a:Int)<40:=by omega
    have a0:(0:Int)<=a:=by omega
    have HA:=hid ha
    have HQ:=hid hq
    clear po ha hq SL
    by_cases hy:0<=y
    ·have hd:decide (0<=y)=true:=by simpa using hy
     have NS:=hid (show sgnN d x (3+1)=s+8 by rw[SG.out,if_pos hy])
     clear hy
     go_wp2
     go_round
     case rel=>exact⟨3+1,by omega,by go_num,by rw[NS.out]<;>rfl⟩
     case measure=>simp[intOf]<;>omega
    ·have hd:decide (0<=y)=false:=by simp;omega
     have NS:=hid (show sgnN d x (3+1)=s by rw[SG.out,if_neg hy])
     clear hy
     go_wp2
     go_round
     case rel=>exact⟨3+1,by omega,by go_num,by rw[NS.out]<;>rfl⟩
     case measure=>simp[intOf]<;>omega
  ·obtain rfl:i=4:=by omega
   go_wp2
   go_ret
   exact⟨rfl,BA.out⟩
end Go.Proofs.YthoiikkjjaldnaaDoor
