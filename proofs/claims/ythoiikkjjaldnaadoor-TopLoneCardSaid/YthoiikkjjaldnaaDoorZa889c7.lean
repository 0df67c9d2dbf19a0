/- Texts that the law rests on, laid together: DeH. -/
import Derived.Test.YthoiikkjjaldnaaDoorZ6782c5
import Derived.Test.YthoiikkjjaldnaaDoorZ718584
set_option maxHeartbeats 4000000
namespace Go.Proofs.YthoiikkjjaldnaaDoor
set_option linter.unusedVariables false
set_option linter.unusedSimpArgs false
set_option maxRecDepth 100000
open Go.RowKit
theorem IB.mid {w:World} {g:Nat} {t:TypeId} {ps:List Int} (h:IB w g t ps) (o n:Nat) (ho:o<=ps.length):w.rangeAt g o (ints ((ps.drop o).take n)):=
 range_of h (ints (ps.take o)) (ints ((ps.drop o).take n)) (ints (ps.drop (o+n))) (ints_cut ps o n) (by rw[ints_len,List.length_take];omega)
section
variable {w:World} {g:Nat} {m:Mm}
theorem MB.set_la (h:MB w g m) (k:m.ok) (x:Int):MB (w.setCell ⟨g,98,none⟩ (.int .i64 x)) g {m with la:=x}:=h.set_tl k 2 (.int .i64 x) _ rfl rfl rfl rfl (by omega)
theorem MB.set_pi (h:MB w g m) (k:m.ok) (x:Int):MB (w.setCell ⟨g,97,none⟩ (.int .i64 x)) g {m with pi:=x}:=h.set_tl k 1 (.int .i64 x) _ rfl rfl rfl rfl (by omega)
theorem MB.set_ga (h:MB w g m) (k:m.ok) (x:Int):MB (w.setCell ⟨g,96,none⟩ (.int .i64 x)) g {m with ga:=x}:=h.set_tl k 0 (.int .i64 x) _ rfl rfl rfl rfl (by omega)
theorem MB.set_si (h:MB w g m) (k:m.ok) (x:Bool):MB (w.setCell ⟨g,101,none⟩ (.bool x)) g {m with si:=x}:=h.set_tl k 5 (.bool x) _ rfl rfl rfl rfl (by omega)
end
theorem below_sc3 {B b:Nat} {a w:World} (hb:B<=b) (h:Below B a w) (i j k:Nat) (x y z:Value):Below B a (((w.setCell ⟨b,i,none⟩ x).setCell ⟨b,j,none⟩ y).setCell ⟨b,k,none⟩ z):=((h.setCell hb x).setCell hb y).setCell hb z
theorem blk_sc3 {g b:Nat} {w:World} {t:TypeId} {cs:Array Value} (hb:g≠b) (h:Blk w g t cs) (i j k:Nat) (x y z:Value):Blk (((w.setCell ⟨b,i,none⟩ x).setCell ⟨b,j,none⟩ y).setCell ⟨b,k,none⟩ z) g t cs:=
 Blk.far (Blk.far (Blk.far h (p:=⟨b,i,none⟩) hb x) (p:=⟨b,j,none⟩) hb y) (p:=⟨b,k,none⟩) hb z
theorem own_sc3 {base b c:Nat} {w:World} {A:Option Addr} {xs:List Int} (hb:b<base) (h:Own w base A c xs) (i j k:Nat) (x y z:Value):Own (((w.setCell ⟨b,i,none⟩ x).setCell ⟨b,j,none⟩ y).setCell ⟨b,k,none⟩ z) base A c xs:=
 Own.setC (Own.setC (Own.setC h hb i x) hb j y) hb k z
structure Hv (w wr:World) (m:Mm) (a u:List Int):Prop where
 A:MB wr w.heap.size m
 F:IB wr (w.heap.size+1) 69 a
 U:IB wr (w.heap.size+2) 74 u
 R:MB wr (w.heap.size+3) zeroM
 bel:Below w.heap.size w wr
theorem Hv.start (w:World) (m:Mm) (a u:List Int):Hv w ((((w.alloc (.cells m.ag 30)).alloc (.cells (agi a) 69)).alloc (.cells (agi u) 74)).alloc (.cells Tryd.zeroCells30 30)) m a u:=by
 have h1:=MB.new w m
 have h2:=IB.new (w.alloc (.cells m.ag 30)) 69 a
 have h3:=IB.new ((w.alloc (.cells m.ag 30)).alloc (.cells (agi a) 69)) 74 u
 have h4:=newzero (((w.alloc (.cells m.ag 30)).alloc (.cells (agi a) 69)).alloc (.cells (agi u) 74))
 simp only[World.size_alloc] at h2 h3 h4
 exact⟨Blk.alloc (Blk.alloc (Blk.alloc h1 _) _) _,Blk.alloc (Blk.alloc h2 _) _,Blk.alloc h3 _,h4,((((Below.refl _ _).alloc (Nat.le_refl _) _).alloc (by simp) _).alloc (by simp;omega) _).alloc (by simp;omega) _⟩
section
variable {w wr w':World} {m:Mm} {a u:List Int}
theorem Hv.below (s:Hv w wr m a u) (hb:Below wr.heap.size wr w'):Hv w w' m a u:=
 ⟨Blk.below' s.A hb,Blk.below' s.F hb,Blk.below' s.U hb,Blk.below' s.R hb,s.bel.trans (hb.mono s.bel.size)⟩
theorem Hv.lt (s:Hv w wr m a u):w.heap.size+4<=wr.heap.size:=Blk.lt s.R
theorem Hv.setE (s:Hv w wr m a u) (k:m.ok) (e:List Int) (he:e.length=80):Hv w (wr.setCells w.heap.size 16 (ints e)) {m with e:=e} a u:=
 ⟨s.A.set_e k e he,blk_sc (by omega) _ _ _ s.F,blk_sc (by omega) _ _ _ s.U,blk_sc (by omega) _ _ _ s.R,below_sc (Nat.le_refl _) _ _ _ s.bel⟩
theorem Hv.set3 (s:Hv w wr m a u) (k:m.ok) (x y z:Int):Hv w (((wr.setCell ⟨w.heap.size,98,none⟩ (.int .i64 x)).setCell ⟨w.heap.size,97,none⟩ (.int .i64 y)).setCell ⟨w.heap.size,96,none⟩ (.int .i64 z)) {m with la:=x,pi:=y,ga:=z} a u:=
 ⟨((s.A.set_la k x).set_pi ⟨k.r,k.p,k.e⟩ y).set_ga ⟨k.r,k.p,k.e⟩ z,blk_sc3 (by omega) s.F _ _ _ _ _ _,blk_sc3 (by omega) s.U _ _ _ _ _ _,blk_sc3 (by omega) s.R _ _ _ _ _ _,below_sc3 (Nat.le_refl _) s.bel _ _ _ _ _ _⟩
end
theorem size4h:(Tryd.prog.info? 72).map (·.size)=some 4:=by kernel_rfl
theorem half_any (m:Mm) (k:m.ok) (a u:List Int) (w:World) (T1:TabA w 2 rootsL) (T2:TabA w 0 gainsL) (ha:a.length=9) (hu:UOk u):
 Calls Tryd.prog 32 #[.agg m.ag,.agg (agi a),.agg (agi u)] w (PlayA w {spM m u with p:=playP a m.p (spX m u)} (playY a m.p (spX m u))):=by
 have hR:=results_mem2 (fn:=Tryd.f32) (p:=6) (q:=7) rfl
 have S0:=Hv.start w m a u
 obtain⟨V,hV⟩: ∃V,V=((((w.alloc (.cells m.ag 30)).alloc (.cells (agi a) 69)).alloc (.cells (agi u) 74)).alloc (.cells Tryd.zeroCells30 30)):=⟨_,rfl⟩
 rw[<-hV] at S0
 have HV:=hid hV.symm
 have S0:=hid S0
 have K:=hid k
 have HA:=hid ha
 have UL:=hid hu.l
 have h59:=hu.a
 have KL:=hid (gainLevel_any (u.getD 7 0) V (T1.below S0.out.bel))
 have KG:=hid (pitchGain_any (u.getD 1 0) V (T2.below S0.out.bel))
 have rg:=glV_range (u.getD 7 0)
 have KB:=hid (show Calls Tryd.prog 60 #[.agg (ints ((u.drop 2).take 4)).toArray,.int .i64 (u.getD 6 0),.int .i64 (glV (u.getD 7 0))] V (NewSE V (spC u) (errOf (blB (uI u) (u.getD 6 0) (glV (u.getD 7 0))))) from pulsesBuild_any (uI u) (u.getD 6 0) (glV (u.getD 7 0)) V (uI_len hu.l) (by omega) (by omega))
 have CL:=hid (spC_len hu)
 have XL:=hid (spX_len hu m)
 have KX:=hid (fun W A c (h:Rs W W.heap.size A (spC u))=>show Calls Tryd.prog 64 #[.agg (ints m.e).toArray,.int .i64 (20+u.getD 0 0),.int .i64 (gainV (u.getD 1 0)),.slice A 40 c] W (NewSE W (spX m u) (mxR (20+u.getD 0 0) (gainV (u.getD 1 0)) 40)) from mix_any m.e (spC u) _ _ A c 40 W k.e h (spC_len hu) (by omega))
 have KK:=hid (fun W A c (h:Rs W W.heap.size A (spX m u))=>show Calls Tryd.prog 65 #[.agg (ints m.e).toArray,.slice A 40 c] W (fun e w'=>e= .returned (.tuple #[.agg (agi (keepL m.e (spX m u))),.int .i64 0])/\Below W.heap.size W w') from keep_any m.e _ A c 40 W k.e h (spX_len hu m) (by omega))
 have EL:=hid (keepL_len k.e (spX_len hu m))
 have KP:=hid (fun W A c (h:Rs W W.heap.size A (spX m u))=>show Calls Tryd.prog 39 #[.agg (spM m u).ag,.agg (agi a),.slice A 40 c] W (PlayA W {spM m u with p:=playP a m.p (spX m u)} (playY a m.p (spX m u))) from play_any (spM m u) (spM_ok k hu) a _ A c 40 W ha h (spX_len hu m) (by omega))
 have FM:=hid (show spM m u={m with e:=keepL m.e (spX m u),la:=20+u.getD 0 0,pi:=gainV (u.getD 1 0),ga:=glV (u.getD 7 0)} from rfl)
 have OKF:=hid (show({spM m u with p:=playP a m.p (spX m u)}:Mm).ok from(spM_ok k hu).pp (playP_len k.p))
 have OKS:=hid (spM_ok k hu)
 have hi80:(Tryd.prog.info? 28).map (·.size)=some (ints m.e).length:=by rw[ints_len,k.e];exact size80k
 have HI80:=hid hi80
 have hi4:(Tryd.prog.info? 72).map (·.size)=some (ints ((u.drop 2).take 4)).length:=by rw[ints_len,show((u.drop 2).take 4).length=4 from uI_len hu.l];exact size4h
 have HI4:=hid hi4
 have SZ:=hid (show(Tryd.prog.info? 28).map (·.size)=some (agi (keepL m.e (spX m u))).size from by rw[agi_size,keepL_len k.e (spX_len hu m)];exact size80k)
 have c7:=S0.out.U.cell 7 (by rw[hu.l];omega)
 have c1:=S0.out.U.cell 1 (by rw[hu.l];omega)
 have c6:=S0.out.U.cell 6 (by rw[hu.l];omega)
 clear k ha hu hi80 hi4 T1 T2 rg hV
 generalize ({spM m u with p:=playP a m.p (spX m u)}:Mm)=mf at*
 generalize playY a m.p (spX m u)=yf at*
 generalize spM m u=ms at*
 generalize spX m u=x at*
 generalize spC u=code at*
 generalize errOf (blB (uI u) (u.getD 6 0) (glV (u.getD 7 0)))=er1 at*
 generalize mxR (20+u.getD 0 0) (gainV (u.getD 1 0)) 40=er2 at*
 generalize errOf (glB (u.getD 7 0))=er3 at*
 generalize errOf (gainB (u.getD 1 0))=er4 at*
 generalize gainV (u.getD 1 0)=g at*
 generalize glV (u.getD 7 0)=size at*
 generalize keepL m.e x=e2 at*
 generalize u.getD 7 0=l7 at*
 generalize u.getD 1 0=l1 at*
 generalize u.getD 6 0=l6 at*
 obtain⟨l0,hl0⟩: ∃l0,l0=u.getD 0 0:=⟨_,rfl⟩
 have HL0:=hid hl0
 rw[<-hl0] at KX FM h59
 clear hl0
 go_enter Tryd.func32,Tryd.ntmps32
 go_wp2_with (first
  |(rw[HV.out];clear HV)
  |(go_at_call 63;(with_reducible refine KL.out.mono ?_);rintro e w' ⟨rfl,rfl⟩)
  |(go_at_call 55;(with_reducible refine KG.out.mono ?_);rintro e w' ⟨rfl,rfl⟩)
  |(refine wpList_load_mid rfl 72 (.tmp 29) rfl _ _ rfl (ints ((u.drop 2).take 4)) _ (S0.out.U.mid 2 4 (by rw[UL.out];omega)) Tryd.underlying72 rfl HI4.out ?_)
  |(go_at_call 60;(with_reducible refine KB.out.mono ?_);rintro e w1 ⟨A1,c1',rfl,hO,hB⟩;have S1:=hid (S0.out.below hB);have O1:=hid hO.reads;clear hO hB;rw[CL.out];have cu:=S1.out.U.cell 0 (by rw[UL.out];omega);rw[<-HL0.out] at cu)
  |(refine wpList_load_mid rfl 28 (.tmp 38) rfl _ _ rfl (ints m.e) _ (S1.out.A.E K.out) Tryd.underlying28 rfl HI80.out ?_)
  |(go_at_call 64;(with_reducible refine(KX.out w1 A1 c1' O1.out).mono ?_);rintro e w2 ⟨A2,c2,rfl,hO,hB⟩;have S2:=hid (S1.out.below hB);have O2:=hid hO;have LT1:=hid S1.out.lt;clear hO hB;rw[XL.out])
  |(refine wpList_load_mid rfl 28 (.tmp 49) rfl _ _ rfl (ints m.e) _ (S2.out.A.E K.out) Tryd.underlying28 rfl HI80.out ?_))
 refine(KK.out w2 A2 c2 O2.out.reads).mono ?_
 rintro e w3 ⟨rfl,hB⟩
 have S3:=hid (S2.out.below hB)
 have O3:=hid (O2.out.below hB)
 clear hB
 have S4:=hid (S3.out.setE K.out e2 EL.out)
 have O4:=hid (Own.setCs (g:=w.heap.size) (by have:=LT1.out;omega) (ints e2) 16 _ O3.out)
 have TH:=hid (show w3.there w.heap.size 16 (agi e2).size from by rw[agi_size,EL.out];exact S3.out.A.thereE K.out)
 obtain⟨w4,hw4⟩: ∃w4,w4=w3.setCells w.heap.size 16 (ints e2):=⟨_,rfl⟩
 rw[<-hw4] at S4 O4
 have HW4:=hid hw4
 have K4:=hid (K.out.ex EL.out)
 have cu4:=S4.out.U.cell 0 (by rw[UL.out];omega)
 rw[<-HL0.out] at cu4
 have d98:=S4.out.A.cla K4.out
 have d97:=S4.out.A.cpi K4.out
 have d96:=S4.out.A.cga K4.out
 have f98:=MB.frozen S4.out.A 98
 have f97:=MB.frozen S4.out.A 97
 have f96:=MB.frozen S4.out.A 96
 have S5:=hid (show Hv w _ ms a u from FM.out▸S4.out.set3 K4.out (20+l0) g size)
 have O5:=hid (own_sc3 (b:=w.heap.size) (by have:=LT1.out;omega) O4.out 98 97 96 (.int .i64 (20+l0)) (.int .i64 g) (.int .i64 size))
 obtain⟨w5,hw5⟩: ∃w5,w5=((w4.setCell ⟨w.heap.size,98,none⟩ (.int .i64 (20+l0))).setCell ⟨w.heap.size,97,none⟩ (.int .i64 g)).setCell ⟨w.heap.size,96,none⟩ (.int .i64 size):=⟨_,rfl⟩
 rw[<-hw5] at S5 O5
 have HW5:=hid hw5.symm
 have hRow:=hid (fun W (s:Hv w W ms a u)=>MB.setRow s.R mf)
 clear hw4 hw5 S3 S2 S1 S0 O1 O2 O3 KX KK KL KG KB c1 c6 c7 cu
 go_wp2_with (first
  |(refine wpList_store_mid rfl 28 (.tmp 55) (.tmp 53) rfl w.heap.size 16 (agi e2) rfl rfl TH.out SZ.out (agi_one _) ?_;rw[show(agi e2).toList=ints e2 from rfl,<-HW4.out])
  |(rw[HW5.out];clear HW5 d98 d97 d96 f98 f97 f96 cu4 HW4 TH)
  |(refine wpList_loadM rfl (.tmp 3) rfl _ ms rfl S5.out.A OKS.out ?_)
  |(refine wpList_loadI rfl 69 (.tmp 4) rfl _ 69 a 9 _ rfl S5.out.F Tryd.underlying69 rfl size9 HA.out ?_)
  |(go_at_call 39;(with_reducible refine(KP.out w5 A2 c2 O5.out.reads).mono ?_);rintro e w6 ⟨A6,c6,rfl,hO,hB⟩;have S6:=hid (S5.out.below hB);have O6:=hid hO;have SZ5:=hid S5.out.lt;clear hO hB)
  |(refine wpList_storeM rfl (.tmp 6) (.tmp 68) rfl _ zeroM mf rfl rfl S6.out.R zeroM_ok OKF.out ?_))
 have FIN:=hid (below_setRow S6.out.bel (g:=w.heap.size+3) (by omega) mf.ag)
 have OF:=hid ((O6.out.setRow (g:=w.heap.size+3) (by have:=SZ5.out;omega) mf.ag).more (base':=w.heap.size) (by have:=SZ5.out;omega))
 refine bodyPost_ret (v:=_) (hR _ _ _ mf rfl (hRow.out _ S6.out) OKF.out) rfl ?_
 exact⟨A6,c6,rfl,OF.out,FIN.out⟩
end Go.Proofs.YthoiikkjjaldnaaDoor
