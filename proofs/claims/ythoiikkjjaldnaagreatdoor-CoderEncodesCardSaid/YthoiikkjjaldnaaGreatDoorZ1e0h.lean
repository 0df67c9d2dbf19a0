/- Texts that the law rests on. -/
import Derived.Test.YthoiikkjjaldnaaGreatDoorZ1e0e
namespace Go.Proofs.YthoiikkjjaldnaaGreatDoor
set_option linter.unusedVariables false
set_option linter.unusedSimpArgs false
set_option maxRecDepth 100000
set_option maxHeartbeats 8000000
open Go.RowKit
theorem IB.mid{w:World}{g:Nat}{t:TypeId}{ps:List Int}(h:IB w g t ps)(o n:Nat)(ho:o<=ps.length):w.rangeAt g o (aj ((ps.drop o).take n)):=
 gI h (aj (ps.take o)) (aj ((ps.drop o).take n)) (aj (ps.drop (o+n))) (aix ps o n) (by rw[aQ,fL];omega)
section
variable {w:World} {g:Nat} {m:Mm}
theorem MB.set_la(h:MB w g m)(k:m.ok)(x:Int):MB (w.setCell ⟨g,98,none⟩ (.int .i64 x)) g {m with la:=x}:=h.set_tl k 2 (.int .i64 x) _ rfl rfl rfl rfl ah
theorem MB.set_pi(h:MB w g m)(k:m.ok)(x:Int):MB (w.setCell ⟨g,97,none⟩ (.int .i64 x)) g {m with pi:=x}:=h.set_tl k 1 (.int .i64 x) _ rfl rfl rfl rfl ah
theorem MB.set_ga(h:MB w g m)(k:m.ok)(x:Int):MB (w.setCell ⟨g,96,none⟩ (.int .i64 x)) g {m with ga:=x}:=h.set_tl k 0 (.int .i64 x) _ rfl rfl rfl rfl ah
theorem MB.set_si(h:MB w g m)(k:m.ok)(x:Bool):MB (w.setCell ⟨g,101,none⟩ (.bool x)) g {m with si:=x}:=h.set_tl k 5 (.bool x) _ rfl rfl rfl rfl ah
end
theorem aal{B b:Nat}{a w:World}(hb:B<=b)(h:Below B a w)(i j k:Nat)(x y z:Value):Below B a (((w.setCell ⟨b,i,none⟩ x).setCell ⟨b,j,none⟩ y).setCell ⟨b,k,none⟩ z):=((h.setCell hb x).setCell hb y).setCell hb z
theorem Eg{g b:Nat}{w:World}{t:TypeId}{cs:Array Value}(hb:g≠b)(h:Blk w g t cs)(i j k:Nat)(x y z:Value):Blk (((w.setCell ⟨b,i,none⟩ x).setCell ⟨b,j,none⟩ y).setCell ⟨b,k,none⟩ z) g t cs:=
 Blk.far (Blk.far (Blk.far h (p:=⟨b,i,none⟩) hb x) (p:=⟨b,j,none⟩) hb y) (p:=⟨b,k,none⟩) hb z
theorem aam{base b c:Nat}{w:World}{A:Option Addr}{xs:List Int}(hb:b<base)(h:Own w base A c xs)(i j k:Nat)(x y z:Value):Own (((w.setCell ⟨b,i,none⟩ x).setCell ⟨b,j,none⟩ y).setCell ⟨b,k,none⟩ z) base A c xs:=
 Own.setC (Own.setC (Own.setC h hb i x) hb j y) hb k z
structure Hv(w wr:World)(m:Mm)(a u:List Int):Prop where
 A:MB wr w.heap.size m
 F:IB wr (w.heap.size+1) 90 a
 U:IB wr (w.heap.size+2) 35 u
 R:MB wr (w.heap.size+3) bZ
 bel:Below w.heap.size w wr
theorem Hv.start(w:World)(m:Mm)(a u:List Int):Hv w ((((w.alloc (.cells m.ag 25)).alloc (.cells (agi a) 90)).alloc (.cells (agi u) 35)).alloc (.cells Tryz.zeroCells25 25)) m a u:=by
 have h1:=MB.new w m
 have h2:=IB.new (w.alloc (.cells m.ag 25)) 90 a
 have h3:=IB.new ((w.alloc (.cells m.ag 25)).alloc (.cells (agi a) 90)) 35 u
 have h4:=pO (((w.alloc (.cells m.ag 25)).alloc (.cells (agi a) 90)).alloc (.cells (agi u) 35))
 simp only[bU] at h2 h3 h4
 exact⟨Blk.alloc (Blk.alloc (Blk.alloc h1 _) _) _,Blk.alloc (Blk.alloc h2 _) _,Blk.alloc h3 _,h4,((((aA _ _).alloc (al0z _) _).alloc az _).alloc aJ _).alloc aJ _⟩
section
variable {w wr w':World} {m:Mm} {a u:List Int}
theorem Hv.below(s:Hv w wr m a u)(hb:Below wr.heap.size wr w'):Hv w w' m a u:=
 ⟨Blk.below' s.A hb,Blk.below' s.F hb,Blk.below' s.U hb,Blk.below' s.R hb,s.bel.trans (hb.mono s.bel.size)⟩
theorem Hv.lt(s:Hv w wr m a u):w.heap.size+4<=wr.heap.size:=Blk.lt s.R
theorem Hv.setE(s:Hv w wr m a u)(k:m.ok)(e:List Int)(he:e.length=80):Hv w (wr.setCells w.heap.size 16 (aj e)) {m with e:=e} a u:=
 ⟨s.A.set_e k e he,dh ah _ _ _ s.F,dh ah _ _ _ s.U,dh ah _ _ _ s.R,iM (al0z _) _ _ _ s.bel⟩
theorem Hv.set3(s:Hv w wr m a u)(k:m.ok)(x y z:Int):Hv w (((wr.setCell ⟨w.heap.size,98,none⟩ (.int .i64 x)).setCell ⟨w.heap.size,97,none⟩ (.int .i64 y)).setCell ⟨w.heap.size,96,none⟩ (.int .i64 z)) {m with la:=x,pi:=y,ga:=z} a u:=
 ⟨((s.A.set_la k x).set_pi ⟨k.r,k.p,k.e⟩ y).set_ga ⟨k.r,k.p,k.e⟩ z,Eg ah s.F _ _ _ _ _ _,Eg ah s.U _ _ _ _ _ _,Eg ah s.R _ _ _ _ _ _,aal (al0z _) s.bel _ _ _ _ _ _⟩
end
theorem Eh:(Tryz.prog.info? 33).map (·.size)=some 4:=au
theorem Tc(m:Mm)(k:m.ok)(a u:List Int)(w:World)(T1:TabA w 4 iy)(T2:TabA w 2 aY)(ha:a.length=9)(hu:UOk u):
 Calls Tryz.prog 46 #[.agg m.ag,.agg (agi a),.agg (agi u)] w (jW w {spM m u with p:=jR a m.p (spX m u)} (oV a m.p (spX m u))):=by
 have hR:=Ee (fn:=Tryz.f46) (p:=6) (q:=7) rfl
 have S0:=Hv.start w m a u
 obtain⟨V,hV⟩:∃V,V=((((w.alloc (.cells m.ag 25)).alloc (.cells (agi a) 90)).alloc (.cells (agi u) 35)).alloc (.cells Tryz.zeroCells25 25)):=⟨_,rfl⟩
 rw[<-hV] at S0
 have HV:=hid hV.symm
 have S0:=hid S0
 have K:=hid k
 have HA:=hid ha
 have UL:=hid hu.l
 have h59:=hu.a
 have KL:=hid (Xh (u.getD 7 0) V (T1.below S0.out.bel))
 have KG:=hid (Xb (u.getD 1 0) V (T2.below S0.out.bel))
 have rg:=Dp (u.getD 7 0)
 have KB:=hid (show Calls Tryz.prog 102 #[.agg (aj ((u.drop 2).take 4)).toArray,.int .i64 (u.getD 6 0),.int .i64 (glV (u.getD 7 0))] V (NewSE V (spC u) (aZ (blB (uI u) (u.getD 6 0) (glV (u.getD 7 0))))) from Xt (uI u) (u.getD 6 0) (glV (u.getD 7 0)) V (Il hu.l) ah ah)
 have CL:=hid (Ip hu)
 have XL:=hid (o9 hu m)
 have KX:=hid (fun W A c (h:Rs W W.heap.size A (spC u))=>show Calls Tryz.prog 106 #[.agg (aj m.e).toArray,.int .i64 (20+u.getD 0 0),.int .i64 (bP (u.getD 1 0)),.slice A 40 c] W (NewSE W (spX m u) (mxR (20+u.getD 0 0) (bP (u.getD 1 0)) 40)) from aeB m.e (spC u) _ _ A c 40 W k.e h (Ip hu) ah)
 have KK:=hid (fun W A c (h:Rs W W.heap.size A (spX m u))=>show Calls Tryz.prog 107 #[.agg (aj m.e).toArray,.slice A 40 c] W (fun e w'=>e=.returned (.tuple #[.agg (agi (bH m.e (spX m u))),.int .i64 0])/\Below W.heap.size W w') from Wh m.e _ A c 40 W k.e h (o9 hu m) ah)
 have EL:=hid (rP k.e (o9 hu m))
 have KP:=hid (fun W A c (h:Rs W W.heap.size A (spX m u))=>show Calls Tryz.prog 68 #[.agg (spM m u).ag,.agg (agi a),.slice A 40 c] W (jW W {spM m u with p:=jR a m.p (spX m u)} (oV a m.p (spX m u))) from ZU (spM m u) (yB k hu) a _ A c 40 W ha h (o9 hu m) ah)
 have FM:=hid (show spM m u={m with e:=bH m.e (spX m u),la:=20+u.getD 0 0,pi:=bP (u.getD 1 0),ga:=glV (u.getD 7 0)} from rfl)
 have OKF:=hid (show({spM m u with p:=jR a m.p (spX m u)}:Mm).ok from(yB k hu).pp (W9 k.p))
 have OKS:=hid (yB k hu)
 have hi80:(Tryz.prog.info? 23).map (·.size)=some (aj m.e).length:=Be
 have HI80:=hid hi80
 have hi4:(Tryz.prog.info? 33).map (·.size)=some (aj ((u.drop 2).take 4)).length:=aa9
 have HI4:=hid hi4
 have SZ:=hid (show(Tryz.prog.info? 23).map (·.size)=some (agi (bH m.e (spX m u))).size from abo)
 have c7:=S0.out.U.cell 7 (by rw[hu.l];omega)
 have c1:=S0.out.U.cell 1 (by rw[hu.l];omega)
 have c6:=S0.out.U.cell 6 (by rw[hu.l];omega)
 clear k ha hu hi80 hi4 T1 T2 rg hV
 generalize ({spM m u with p:=jR a m.p (spX m u)}:Mm)=mf at*
 generalize oV a m.p (spX m u)=yf at*
 generalize spM m u=ms at*
 generalize spX m u=x at*
 generalize spC u=code at*
 generalize aZ (blB (uI u) (u.getD 6 0) (glV (u.getD 7 0)))=er1 at*
 generalize mxR (20+u.getD 0 0) (bP (u.getD 1 0)) 40=er2 at*
 generalize aZ (glB (u.getD 7 0))=er3 at*
 generalize aZ (rU (u.getD 1 0))=er4 at*
 generalize bP (u.getD 1 0)=g at*
 generalize glV (u.getD 7 0)=size at*
 generalize bH m.e x=e2 at*
 generalize u.getD 7 0=l7 at*
 generalize u.getD 1 0=l1 at*
 generalize u.getD 6 0=l6 at*
 obtain⟨l0,hl0⟩:∃l0,l0=u.getD 0 0:=⟨_,rfl⟩
 have HL0:=hid hl0
 rw[<-hl0] at KX FM h59
 clear hl0
 go_enter Tryz.func46,Tryz.ntmps46
 go_wp2_with(first
  |(rw[HV.out];clear HV)
  |(go_at_call 105;(with_reducible refine KL.out.mono ?_);rintro e w' ⟨rfl,rfl⟩)
  |(go_at_call 97;(with_reducible refine KG.out.mono ?_);rintro e w' ⟨rfl,rfl⟩)
  |(refine bI rfl 33 (.tmp 29) rfl _ _ rfl (aj ((u.drop 2).take 4)) _ (S0.out.U.mid 2 4 xm) Tryz.underlying33 rfl HI4.out ?_)
  |(go_at_call 102;(with_reducible refine KB.out.mono ?_);rintro e w1 ⟨A1,c1',rfl,hO,hB⟩;have S1:=hid (S0.out.below hB);have O1:=hid hO.reads;clear hO hB;rw[CL.out];have cu:=S1.out.U.cell 0 xm;rw[<-HL0.out] at cu)
  |(refine bI rfl 23 (.tmp 38) rfl _ _ rfl (aj m.e) _ (S1.out.A.E K.out) Tryz.underlying23 rfl HI80.out ?_)
  |(go_at_call 106;(with_reducible refine(KX.out w1 A1 c1' O1.out).mono ?_);rintro e w2 ⟨A2,c2,rfl,hO,hB⟩;have S2:=hid (S1.out.below hB);have O2:=hid hO;have LT1:=hid S1.out.lt;clear hO hB;rw[XL.out])
  |(refine bI rfl 23 (.tmp 49) rfl _ _ rfl (aj m.e) _ (S2.out.A.E K.out) Tryz.underlying23 rfl HI80.out ?_))
 refine(KK.out w2 A2 c2 O2.out.reads).mono ?_
 rintro e w3 ⟨rfl,hB⟩
 have S3:=hid (S2.out.below hB)
 have O3:=hid (O2.out.below hB)
 clear hB
 have S4:=hid (S3.out.setE K.out e2 EL.out)
 have O4:=hid (Own.setCs (g:=w.heap.size) Bq (aj e2) 16 _ O3.out)
 have TH:=hid (show w3.there w.heap.size 16 (agi e2).size from by rw[dV,EL.out];exact S3.out.A.thereE K.out)
 obtain⟨w4,hw4⟩:∃w4,w4=w3.setCells w.heap.size 16 (aj e2):=⟨_,rfl⟩
 rw[<-hw4] at S4 O4
 have HW4:=hid hw4
 have K4:=hid (K.out.ex EL.out)
 have cu4:=S4.out.U.cell 0 xm
 rw[<-HL0.out] at cu4
 have d98:=S4.out.A.cla K4.out
 have d97:=S4.out.A.cpi K4.out
 have d96:=S4.out.A.cga K4.out
 have f98:=MB.frozen S4.out.A 98
 have f97:=MB.frozen S4.out.A 97
 have f96:=MB.frozen S4.out.A 96
 have S5:=hid (show Hv w _ ms a u from FM.out▸S4.out.set3 K4.out (20+l0) g size)
 have O5:=hid (aam (b:=w.heap.size) Bq O4.out 98 97 96 (.int .i64 (20+l0)) (.int .i64 g) (.int .i64 size))
 obtain⟨w5,hw5⟩:∃w5,w5=((w4.setCell ⟨w.heap.size,98,none⟩ (.int .i64 (20+l0))).setCell ⟨w.heap.size,97,none⟩ (.int .i64 g)).setCell ⟨w.heap.size,96,none⟩ (.int .i64 size):=⟨_,rfl⟩
 rw[<-hw5] at S5 O5
 have HW5:=hid hw5.symm
 have hRow:=hid (fun W (s:Hv w W ms a u)=>MB.setRow s.R mf)
 clear hw4 hw5 S3 S2 S1 S0 O1 O2 O3 KX KK KL KG KB c1 c6 c7 cu
 go_wp2_with(first
  |(refine jd rfl 23 (.tmp 55) (.tmp 53) rfl w.heap.size 16 (agi e2) rfl rfl TH.out SZ.out (gG _) ?_;rw[show(agi e2).toList=aj e2 from rfl,<-HW4.out])
  |(rw[HW5.out];clear HW5 d98 d97 d96 f98 f97 f96 cu4 HW4 TH)
  |(refine oU rfl (.tmp 3) rfl _ ms rfl S5.out.A OKS.out ?_)
  |(refine aK rfl 90 (.tmp 4) rfl _ 90 a 9 _ rfl S5.out.F Tryz.underlying90 rfl bC HA.out ?_)
  |(go_at_call 68;(with_reducible refine(KP.out w5 A2 c2 O5.out.reads).mono ?_);rintro e w6 ⟨A6,c6,rfl,hO,hB⟩;have S6:=hid (S5.out.below hB);have O6:=hid hO;have SZ5:=hid S5.out.lt;clear hO hB)
  |(refine iO rfl (.tmp 6) (.tmp 68) rfl _ bZ mf rfl rfl S6.out.R jF OKF.out ?_))
 have FIN:=hid (aS S6.out.bel (g:=w.heap.size+3) ah mf.ag)
 have OF:=hid ((O6.out.setRow (g:=w.heap.size+3) (by have:=SZ5.out;omega) mf.ag).more (base':=w.heap.size) (by have:=SZ5.out;omega))
 refine bg (v:=_) (hR _ _ _ mf rfl (hRow.out _ S6.out) OKF.out) rfl ?_
 exact⟨A6,c6,rfl,OF.out,FIN.out⟩
theorem MB.set_r{w:World}{g:Nat}{m:Mm}(h:MB w g m)(k:m.ok)(r:List Int)(hr:r.length=8):MB (w.setCells g 0 (aj r)) g {m with r:=r}:=by
 have h0:Blk w g 25 ([]++(aj m.r++(aj m.p++(aj m.e++m.tl)))).toArray:=h
 exact vT (aj r) (aj m.r) [] _ w h0 (by rw[aQ,aQ,hr,k.r])
theorem MB.thereR{w:World}{g:Nat}{m:Mm}(h:MB w g m)(k:m.ok):w.there g 0 8:=fun j hj=>h.there k j ah
theorem Tn(was now:List Int)(s:Nat)(w:World)(ha:was.length=8)(hb:now.length=8)(hs:s<2):
 Calls Tryz.prog 44 #[.agg (agi was),.agg (agi now),.int .i64 (s:Nat)] w (fun e w'=>e=.returned (.agg (agi (frA was now s)))/\Below w.heap.size w w'):=by
 have hR:=x8 (fn:=Tryz.f44) (p:=6) (ty:=90) rfl
 have h1:=IB.new w 22 was
 have h2:=IB.new (w.alloc (.cells (agi was) 22)) 22 now
 have h3:=IB.new ((w.alloc (.cells (agi was) 22)).alloc (.cells (agi now) 22)) 90 Z9
 simp only[bU] at h2 h3
 have B0:=(((aA _ _).alloc (al0z w.heap.size) (.cells (agi was) 22)).alloc az (.cells (agi now) 22)).alloc aJ (.cells (agi Z9) 90)
 have A0:=hid (Blk.alloc (Blk.alloc h1 (.cells (agi now) 22)) (.cells (agi Z9) 90))
 have N0:=hid (Blk.alloc h2 (.cells (agi Z9) 90))
 have R0:=hid h3
 have B0:=hid B0
 have KM:=hid (fun W=>aeF was now ((2+2*s:Nat):Int) W ha hb)
 have ML:=hid (CJ was now ((2+2*s:Nat):Int))
 have KD:=hid (fun W=>afU (je was now ((2+2*s:Nat):Int)) W (CJ _ _ _))
 have FA:=hid (show frA was now s=lW (je was now ((2+2*s:Nat):Int)) from rfl)
 have DL:=hid (Pz (je was now ((2+2*s:Nat):Int)))
 have HA:=hid ha
 have HB:=hid hb
 have KM:=KM.out
 unfold yu at KM
 unfold uG at KD
 generalize aZ (jK was now ((2+2*s:Nat):Int))=e1 at*
 generalize aZ (bM (je was now ((2+2*s:Nat):Int)))=e2 at*
 generalize frA was now s=fa at*
 generalize je was now ((2+2*s:Nat):Int)=mx at*
 rw[show((2+2*s:Nat):Int)=2+2*(s:Int) by push_cast;rfl] at KM
 have KM:=hid KM
 have FA2:=FA.out
 subst FA2
 have KD:=hid KD.out
 generalize lW mx=d at*
 obtain⟨V,hV⟩:∃V,V=((w.alloc (.cells (agi was) 22)).alloc (.cells (agi now) 22)).alloc (.cells (agi Z9) 90):=⟨_,rfl⟩
 rw[<-hV] at A0 N0 R0 B0
 rw[jq] at hV
 have HV:=hid hV.symm
 clear hV h1 h2 h3 ha hb FA
 go_enter Tryz.func44,Tryz.ntmps44
 go_wp2_with(first
  |(rw[HV.out];clear HV)
  |(refine aK rfl 22 (.tmp 3) rfl _ 22 was 8 _ rfl A0.out Tryz.underlying22 rfl aH HA.out ?_)
  |(refine aK rfl 22 (.tmp 4) rfl _ 22 now 8 _ rfl N0.out Tryz.underlying22 rfl aH HB.out ?_))
 refine(KM.out V).mono ?_
 rintro e w1 ⟨rfl,hB⟩
 have R1:=hid (Blk.below' R0.out hB)
 have B1:=hid (B0.out.trans (hB.mono B0.out.size))
 clear hB A0 N0
 go_wp2_with(first
  |(refine aP rfl 22 (.tmp 7) (.tmp 18) rfl _ 22 Z8 mx 8 rfl rfl (IB.new w1 22 Z8) aH rfl ML.out ?_
    have BB:=bT w1 (.cells (agi Z8) 22) (agi mx)
    obtain⟨V2,hV⟩:∃V2,V2=(w1.alloc (.cells (agi Z8) 22)).setRow w1.heap.size (agi mx):=⟨_,rfl⟩
    have R2:=hid (show IB V2 (w.heap.size+1+1) 90 Z9 from by rw[hV];exact Blk.below' R1.out BB)
    have B2:=hid (show Below w.heap.size w V2 from by rw[hV];exact B1.out.trans (BB.mono B1.out.size))
    have M2:=hid (show IB V2 w1.heap.size 22 mx from by rw[hV];exact IB.stored w1 22 Z8 mx)
    rw[bW] at hV
    rw[<-hV]
    clear hV BB)
  |(refine aK rfl 22 (.tmp 7) rfl _ 22 mx 8 _ rfl M2.out Tryz.underlying22 rfl aH ML.out ?_))
 refine(KD.out V2).mono ?_
 rintro e w3 ⟨rfl,hB⟩
 have R3:=hid (Blk.below' R2.out hB)
 have B3:=hid (B2.out.trans (hB.mono B2.out.size))
 clear hB M2
 go_wp2_with(first
  |(refine aP rfl 90 (.tmp 9) (.tmp 23) rfl _ 90 Z9 d 9 rfl rfl (IB.new w3 90 Z9) bC rfl DL.out ?_
    have BB:=bT w3 (.cells (agi Z9) 90) (agi d)
    obtain⟨V4,hV⟩:∃V4,V4=(w3.alloc (.cells (agi Z9) 90)).setRow w3.heap.size (agi d):=⟨_,rfl⟩
    have R4:=hid (show IB V4 (w.heap.size+1+1) 90 Z9 from UF)
    have B4:=hid (show Below w.heap.size w V4 from Ur)
    have D4:=hid (show IB V4 w3.heap.size 90 d from by rw[hV];exact IB.stored w3 90 Z9 d)
    rw[jq] at hV
    rw[<-hV]
    clear hV BB)
  |(refine aK rfl 90 (.tmp 9) rfl _ 90 d 9 _ rfl D4.out Tryz.underlying90 rfl bC DL.out ?_)
  |(refine aP rfl 90 (.tmp 6) (.tmp 25) rfl _ 90 Z9 d 9 rfl rfl R4.out bC rfl DL.out ?_))
 refine bg (v:=_) (hR _ _ _ 90 d _ 9 rfl (IB.setRow R4.out d) Tryz.underlying90 rfl bC DL.out) rfl ?_
 exact⟨rfl,aS B4.out ah _⟩
structure Fb(w wr:World)(m:Mm)(ps:List Int):Prop where
 A:MB wr w.heap.size m
 P:IB wr (w.heap.size+1) 38 ps
 R:MB wr (w.heap.size+2) bZ
 bel:Below w.heap.size w wr
theorem Fb.start(w:World)(m:Mm)(ps:List Int):
 Fb w (((w.alloc (.cells m.ag 25)).alloc (.cells (agi ps) 38)).alloc (.cells Tryz.zeroCells25 25)) m ps:=by
 have h1:=MB.new w m
 have h2:=IB.new (w.alloc (.cells m.ag 25)) 38 ps
 have h3:=pO ((w.alloc (.cells m.ag 25)).alloc (.cells (agi ps) 38))
 simp only[bU] at h2 h3
 exact⟨Blk.alloc (Blk.alloc h1 _) _,Blk.alloc h2 _,h3,((((aA _ _).alloc (al0z w.heap.size) (.cells m.ag 25)).alloc az (.cells (agi ps) 38)).alloc aJ (.cells Tryz.zeroCells25 25))⟩
section
variable {w wr w':World} {m mm:Mm} {ps:List Int}
theorem Fb.below(s:Fb w wr m ps)(hb:Below wr.heap.size wr w'):Fb w w' m ps:=
 ⟨Blk.below' s.A hb,Blk.below' s.P hb,Blk.below' s.R hb,s.bel.trans (hb.mono s.bel.size)⟩
theorem Fb.lt(s:Fb w wr m ps):w.heap.size+3<=wr.heap.size:=Blk.lt s.R
theorem Fb.setA(s:Fb w wr m ps):Fb w (wr.setRow w.heap.size mm.ag) mm ps:=
 ⟨s.A.setRow mm,Blk.rowFar s.P ah,Blk.rowFar s.R ah,aS s.bel (al0z _) _⟩
theorem Fb.setSi(s:Fb w wr m ps)(k:m.ok)(x:Bool):Fb w (wr.setCell ⟨w.heap.size,101,none⟩ (.bool x)) {m with si:=x} ps:=
 ⟨s.A.set_si k x,Blk.far s.P az _,Blk.far s.R az _,s.bel.setCell az _⟩
theorem Fb.setEr(s:Fb w wr m ps)(k:m.ok)(x:Int):Fb w (wr.setCell ⟨w.heap.size,99,none⟩ (.int .i64 x)) {m with er:=x} ps:=
 ⟨s.A.set_er k x,Blk.far s.P az _,Blk.far s.R az _,s.bel.setCell az _⟩
theorem Fb.setRf(s:Fb w wr m ps)(k:m.ok)(r:List Int)(hr:r.length=8):Fb w (wr.setCells w.heap.size 0 (aj r)) {m with r:=r} ps:=
 ⟨s.A.set_r k r hr,dh ah _ _ _ s.P,dh ah _ _ _ s.R,iM (al0z _) _ _ _ s.bel⟩
end
structure Fc(w wr:World)(m:Mm)(ps:List Int)(gN gW:Nat)(now was:List Int):Prop where
 F:Fb w wr m ps
 N:IB wr gN 22 now
 W:IB wr gW 22 was
 l1:w.heap.size+3<=gN
 l2:gN<gW
section
variable {w wr w':World} {m mm:Mm} {ps now was:List Int} {gN gW:Nat}
theorem Fc.below(s:Fc w wr m ps gN gW now was)(hb:Below wr.heap.size wr w'):Fc w w' m ps gN gW now was:=⟨s.F.below hb,Blk.below' s.N hb,Blk.below' s.W hb,s.l1,s.l2⟩
theorem Fc.glt(s:Fc w wr m ps gN gW now was):gW<wr.heap.size:=Blk.lt s.W
theorem Fc.setA(s:Fc w wr m ps gN gW now was):Fc w (wr.setRow w.heap.size mm.ag) mm ps gN gW now was:=⟨s.F.setA,Blk.rowFar s.N Ff,Blk.rowFar s.W MP,s.l1,s.l2⟩
theorem Fc.setSi(s:Fc w wr m ps gN gW now was)(k:m.ok)(x:Bool):Fc w (wr.setCell ⟨w.heap.size,101,none⟩ (.bool x)) {m with si:=x} ps gN gW now was:=
 ⟨s.F.setSi k x,Blk.far s.N (by have:=s.l1;show gN≠w.heap.size;omega) _,Blk.far s.W (by have:=s.l1;have:=s.l2;show gW≠w.heap.size;omega) _,s.l1,s.l2⟩
theorem Fc.grown{A:Option Addr}{c:Nat}{xs:List Int}(s:Fc w wr m ps gN gW now was)(hO:Own wr (gW+1) A c xs)(hG:wr.grownBy w' (A.map (·.block))):Fc w w' m ps gN gW now was:=by
 have h1:=s.l1
 have h2:=s.l2
 have h3:=s.glt
 exact⟨⟨Blk.grownA s.F.A hG (hO.ne_ ah),Blk.grownA s.F.P hG (hO.ne_ ah),Blk.grownA s.F.R hG (hO.ne_ ah),uB s.F.bel (hO.more (base':=w.heap.size) ah) hG ah⟩,Blk.grownA s.N hG (hO.ne_ ah),Blk.grownA s.W hG (hO.ne_ ah),s.l1,s.l2⟩
end
structure FrC(w W:World)(m:Mm)(ps:List Int)(gN gW:Nat)(now was:List Int)(gA:Nat)(a:List Int)(A:Option Addr)(c:Nat)(zs:List Int):Prop where
 C:Fc w W m ps gN gW now was
 F:IB W gA 90 a
 O:Own W (gW+1) A c zs
theorem sW:(Tryz.prog.info? 35).map (·.size)=some 8:=au
theorem Tq(m:Mm)(k:m.ok)(g:aU m=true)(ps:List Int)(w:World)(T1:TabA w 4 iy)(T2:TabA w 2 aY)(T3:TabA w 3 fD)(hp:cf ps 25=true)(hl:ps.length=25):
 Calls Tryz.prog 24 #[.agg m.ag,.agg (agi ps)] w (jW w (frM m ps) (frO m ps)):=by
 have hR:=Ee (fn:=Tryz.f24) (p:=4) (q:=5) rfl
 have S0:=Fb.start w m ps
 obtain⟨V,hV⟩:∃V,V=(((w.alloc (.cells m.ag 25)).alloc (.cells (agi ps) 38)).alloc (.cells Tryz.zeroCells25 25)):=⟨_,rfl⟩
 rw[<-hV] at S0
 have HV:=hid hV.symm
 have S0:=hid S0
 obtain⟨m0,hm0⟩:∃m0,m0=fr0 m ps:=⟨_,rfl⟩
 obtain⟨q,hq⟩:∃q,q=frQ ps:=⟨_,rfl⟩
 obtain⟨rp,hrp⟩:∃rp,rp=nC ps:=⟨_,rfl⟩
 obtain⟨now,hnow⟩:∃now,now=oG ps:=⟨_,rfl⟩
 obtain⟨m1,hm1⟩:∃m1:Mm,m1={m0 with si:=q}:=⟨_,rfl⟩
 obtain⟨was,hwas⟩:∃was,was=m0.r:=⟨_,rfl⟩
 have K0:=hid (show m0.ok from by rw[hm0];exact DG k ps)
 have G0:aU m0=true:=by rw[hm0];exact QM g ps
 have K1:=hid (show m1.ok from by rw[hm1];exact⟨K0.out.r,K0.out.p,K0.out.e⟩)
 have G1:=hid (show aU m1=true from by rw[hm1];exact agK G0 q)
 have SW:bM was=true:=by rw[hwas,hm0];exact Yw g ps
 have SN:bM now=true:=by rw[hnow];exact QO hp
 have WL:=hid (show was.length=8 from Nb)
 have NL:=hid (show now.length=8 from by rw[hnow];exact QB ps)
 have FM:=hid (fun(z:Mm) (hz:z=frK q was now ps m1 2)=>show frM m ps={z with r:=now,er:=0} from by
  unfold frM frE
  rw[hz,hm1,hwas,hm0,hq,hnow])
 have FO:=hid (fun(Y:List Int) (hY:Y=frZ q was now ps m1 2)=>show frO m ps=Y from by
  unfold frO
  rw[hY,hm1,hwas,hm0,hq,hnow])
 have KV:=hid (fun W (h:Below w.heap.size w W)=>show Calls Tryz.prog 43 #[.agg (aj rp).toArray] W (fun e w'=>e=.returned (.tuple #[.agg (agi now),.int .i64 0])/\Below W.heap.size W w') from by
  have h1:=XI (nC ps) W (Iq hl) (T3.below h)
  unfold rX at h1
  rw[QC hp,DD hp 8 (al0z _),<-hnow,<-hrp] at h1
  exact h1)
 have KF:=hid (fun(s:Nat) (hs:s<2) W=>Tn was now s W WL.out NL.out hs)
 have KK:=hid (fun n (hn:n<=2)=>IG (q:=q) (was:=was) (now:=now) K1.out hp hl n hn)
 have KG:=hid (fun n (hn:n<=2)=>QF (q:=q) (was:=was) (now:=now) G1.out hp hl n hn)
 have KU:=hid (fun s (hs:s<2)=>Ir hp hl hs)
 have KA:=hid (fun s (hs:s<2)=>zO SW SN hs)
 have HRP:=hid (fun W gg (h:IB W gg 38 ps)=>show W.rangeAt gg 1 (aj rp) from by rw[hrp];exact h.mid 1 8 ah)
 have HL:=hid hl
 have TT1:=hid T1
 have TT2:=hid T2
 obtain⟨p0,hp0⟩:∃p0,p0=ps.getD 0 0:=⟨_,rfl⟩
 have hk:p0=0\/p0=1\/p0=2:=by
  exact acs
 have c0:=S0.out.P.cell 0 (by rw[hl];omega)
 rw[<-hp0] at c0
 have P0:=hid hp0
 have KM:=hid k
 have M0:=hid hm0
 have SI1:=hid (show m1.si=q from by rw[hm1])
 have M1:=hid hm1
 have HW:=hid hwas
 have HQ:=hid hq
 have HI8:=hid (show(Tryz.prog.info? 22).map (·.size)=some (aj rp).length from by rw[aQ,hrp,Iq hl];exact aH)
 have HI8':=hid (show(Tryz.prog.info? 22).map (·.size)=some (aj m0.r).length from by rw[aQ,K0.out.r];exact aH)
 have SZ:=hid (show(Tryz.prog.info? 22).map (·.size)=some (agi now).size from by rw[dV,NL.out];exact aH)
 clear hV hrp hm0 hq hnow hm1 hwas k g hp hl hp0 T1 T2 T3 SW SN G0
 rcases hk with rfl|rfl|rfl
 ·have e0:=hid (show m0=m from Ou)
  have eq0:=hid (show q=false from AK)
  have e0:=e0.out
  subst e0
  have eq0:=eq0.out
  subst eq0
  clear M0 HQ
  go_enter Tryz.func24,Tryz.ntmps24
  go_wp2_with(first
   |(rw[HV.out];clear HV)
   |(refine bI rfl 22 (.tmp 19) rfl _ _ rfl (aj rp) _ (HRP.out _ _ S0.out.P) Tryz.underlying22 rfl HI8.out ?_))
  with_reducible refine(KV.out V S0.out.bel).mono ?_
  rintro e w1 ⟨rfl,hB⟩
  have S1:=hid (S0.out.below hB)
  clear hB S0 KV c0
  have SX1:=hid S1.out.lt
  go_wp2_with(first
   |(refine aP rfl 22 (.tmp 7) (.tmp 22) rfl _ 22 Z8 now 8 rfl rfl (IB.new w1 22 Z8) aH rfl NL.out ?_
     have BB:=bT w1 (.cells (agi Z8) 22) (agi now)
     obtain⟨V2,hV⟩:∃V2,V2=(w1.alloc (.cells (agi Z8) 22)).setRow w1.heap.size (agi now):=⟨_,rfl⟩
     have S2:=hid (show Fb w V2 m0 ps from UQ)
     have N2:=hid (show IB V2 w1.heap.size 22 now from UA)
     have Z2:=hid (show w1.heap.size<V2.heap.size from Blk.lt N2.out)
     rw[bW] at hV
     rw[<-hV]
     clear hV BB)
   |(refine bI rfl 22 (.tmp 24) rfl _ _ rfl (aj m0.r) _ (S2.out.A.R K0.out) Tryz.underlying22 rfl HI8'.out ?_;rw[show(aj m0.r).toArray=agi was from by rw[HW.out];rfl])
   |(refine aP rfl 22 (.tmp 9) (.tmp 25) rfl _ 22 Z8 was 8 rfl rfl (IB.new V2 22 Z8) aH rfl WL.out ?_
     have BB:=bT V2 (.cells (agi Z8) 22) (agi was)
     obtain⟨V3,hV⟩:∃V3,V3=(V2.alloc (.cells (agi Z8) 22)).setRow V2.heap.size (agi was):=⟨_,rfl⟩
     have S3:=hid (show Fc w V3 m0 ps w1.heap.size V2.heap.size now was from by rw[hV];exact⟨S2.out.below BB,Blk.below' N2.out BB,IB.stored V2 22 Z8 was,by have:=SX1.out;omega,by have:=Z2.out;omega⟩)
     have c3:=S3.out.F.P.cell 0 nV
     rw[<-P0.out] at c3
     have d3:=S3.out.F.A.csi K0.out
     have f3:=MB.frozen S3.out.F.A 101
     have S4:=hid (show Fc w (V3.setCell ⟨w.heap.size,101,none⟩ (.bool false)) m1 ps w1.heap.size V2.heap.size now was from by rw[M1.out];exact S3.out.setSi K0.out false)
     rw[bW] at hV
     rw[<-hV]
     clear hV BB))
  obtain⟨V4,hV4⟩:∃V4,V4=V3.setCell ⟨w.heap.size,101,none⟩ (.bool false):=⟨_,rfl⟩
  obtain⟨gN,hgN⟩:∃gN,gN=w1.heap.size:=⟨_,rfl⟩
  obtain⟨gW,hgW⟩:∃gW,gW=V2.heap.size:=⟨_,rfl⟩
  rw[<-hV4,<-hgN,<-hgW] at S4
  rw[<-hV4,<-hgN,<-hgW]
  clear hV4 hgN hgW c3 d3 f3 S3 N2 Z2 S2 S1 SX1 P0 M1
  go_loopw[6,30] (fun ov iv wr=> ∃(k:Nat) (A:Option Addr) (c n:Nat),k<=2/\iv=.int .i64 k/\ov=.slice A n c/\Hid (n=40*k)/\Hid (Own wr (gW+1) A c (frZ false was now ps m1 k))/\Hid (Fc w wr (frK false was now ps m1 k) ps gN gW now was)) (fun _ iv _=>2-(intOf iv).toNat)
  case atStart=>exact⟨0,none,0,0,ah,rfl,rfl,hid rfl,hid Own.nil,S4⟩
  case round=>
   clear S4
   obtain⟨k,A,c,n,hk,rfl,rfl,HN,HO,HC⟩:=hrel
   by_cases hlt:k<2
   ·exact l3
   obtain rfl:k=2:=ah
   obtain rfl:n=80:=HN.out
   obtain⟨mk,hmk⟩:∃mk,mk=frK false was now ps m1 2:=⟨_,rfl⟩
   have OKS:=hid (show mk.ok from AQ)
   have FZ:=hid (FM.out mk hmk)
   have LO:=hid (yF m0 ps)
   rw[<-hmk] at HC
   rw[<-FO.out _ rfl] at HO
   clear hmk FO FM KK KG KF KU KA
   generalize frO m0 ps=yf at*
   generalize frM m0 ps=mf at*
   exact l6
 ·have e0:=hid (show m0=lX from by rw[M0.out];unfold fr0;rw[<-P0.out,if_pos rfl])
  have eq0:=hid (show q=false from AK)
  have eq0:=eq0.out
  subst eq0
  have KFr:=hid (fun W=>show Calls Tryz.prog 41 #[] W (fun e w'=>e=.returned (.agg m0.ag)/\Below W.heap.size W w') from by rw[e0.out];exact PN W)
  clear M0 HQ e0
  go_enter Tryz.func24,Tryz.ntmps24
  go_wp2_with(first
   |(rw[HV.out];clear HV)
   |(go_at_call 41;(with_reducible refine(KFr.out V).mono ?_);rintro e w1 ⟨rfl,hB⟩;have S1:=hid (S0.out.below hB);clear hB;have S2:=hid (S1.out.setA (mm:=m0));obtain⟨V2,hV2⟩:∃V2,V2=w1.setRow w.heap.size m0.ag:=⟨_,rfl⟩;rw[<-hV2] at S2;have HV2:=hid hV2;clear hV2)
   |(refine iO rfl (.tmp 2) (.tmp 17) rfl _ m m0 rfl rfl S1.out.A KM.out K0.out ?_;rw[<-HV2.out];clear HV2)
   |(refine bI rfl 22 (.tmp 19) rfl _ _ rfl (aj rp) _ (HRP.out _ _ S2.out.P) Tryz.underlying22 rfl HI8.out ?_))
  with_reducible refine(KV.out V2 S2.out.bel).mono ?_
  rintro e w1 ⟨rfl,hB⟩
  have S1:=hid (S2.out.below hB)
  clear hB S0 S2 KV c0 KFr
  have SX1:=hid S1.out.lt
  go_wp2_with(first
   |(refine aP rfl 22 (.tmp 7) (.tmp 22) rfl _ 22 Z8 now 8 rfl rfl (IB.new w1 22 Z8) aH rfl NL.out ?_
     have BB:=bT w1 (.cells (agi Z8) 22) (agi now)
     obtain⟨V2,hV⟩:∃V2,V2=(w1.alloc (.cells (agi Z8) 22)).setRow w1.heap.size (agi now):=⟨_,rfl⟩
     have S2:=hid (show Fb w V2 m0 ps from UQ)
     have N2:=hid (show IB V2 w1.heap.size 22 now from UA)
     have Z2:=hid (show w1.heap.size<V2.heap.size from Blk.lt N2.out)
     rw[bW] at hV
     rw[<-hV]
     clear hV BB)
   |(refine bI rfl 22 (.tmp 24) rfl _ _ rfl (aj m0.r) _ (S2.out.A.R K0.out) Tryz.underlying22 rfl HI8'.out ?_;rw[show(aj m0.r).toArray=agi was from by rw[HW.out];rfl])
   |(refine aP rfl 22 (.tmp 9) (.tmp 25) rfl _ 22 Z8 was 8 rfl rfl (IB.new V2 22 Z8) aH rfl WL.out ?_
     have BB:=bT V2 (.cells (agi Z8) 22) (agi was)
     obtain⟨V3,hV⟩:∃V3,V3=(V2.alloc (.cells (agi Z8) 22)).setRow V2.heap.size (agi was):=⟨_,rfl⟩
     have S3:=hid (show Fc w V3 m0 ps w1.heap.size V2.heap.size now was from by rw[hV];exact⟨S2.out.below BB,Blk.below' N2.out BB,IB.stored V2 22 Z8 was,by have:=SX1.out;omega,by have:=Z2.out;omega⟩)
     have c3:=S3.out.F.P.cell 0 nV
     rw[<-P0.out] at c3
     have d3:=S3.out.F.A.csi K0.out
     have f3:=MB.frozen S3.out.F.A 101
     have S4:=hid (show Fc w (V3.setCell ⟨w.heap.size,101,none⟩ (.bool false)) m1 ps w1.heap.size V2.heap.size now was from by rw[M1.out];exact S3.out.setSi K0.out false)
     rw[bW] at hV
     rw[<-hV]
     clear hV BB))
  obtain⟨V4,hV4⟩:∃V4,V4=V3.setCell ⟨w.heap.size,101,none⟩ (.bool false):=⟨_,rfl⟩
  obtain⟨gN,hgN⟩:∃gN,gN=w1.heap.size:=⟨_,rfl⟩
  obtain⟨gW,hgW⟩:∃gW,gW=V2.heap.size:=⟨_,rfl⟩
  rw[<-hV4,<-hgN,<-hgW] at S4
  rw[<-hV4,<-hgN,<-hgW]
  clear hV4 hgN hgW c3 d3 f3 S3 N2 Z2 S2 S1 SX1 P0 M1
  go_loopw[6,30] (fun ov iv wr=> ∃(k:Nat) (A:Option Addr) (c n:Nat),k<=2/\iv=.int .i64 k/\ov=.slice A n c/\Hid (n=40*k)/\Hid (Own wr (gW+1) A c (frZ false was now ps m1 k))/\Hid (Fc w wr (frK false was now ps m1 k) ps gN gW now was)) (fun _ iv _=>2-(intOf iv).toNat)
  case atStart=>exact⟨0,none,0,0,ah,rfl,rfl,hid rfl,hid Own.nil,S4⟩
  case round=>
   clear S4
   obtain⟨k,A,c,n,hk,rfl,rfl,HN,HO,HC⟩:=hrel
   by_cases hlt:k<2
   ·exact l3
   obtain rfl:k=2:=ah
   obtain rfl:n=80:=HN.out
   obtain⟨mk,hmk⟩:∃mk,mk=frK false was now ps m1 2:=⟨_,rfl⟩
   have OKS:=hid (show mk.ok from AQ)
   have FZ:=hid (FM.out mk hmk)
   have LO:=hid (yF m ps)
   rw[<-hmk] at HC
   rw[<-FO.out _ rfl] at HO
   clear hmk FO FM KK KG KF KU KA
   generalize frO m ps=yf at*
   generalize frM m ps=mf at*
   exact l6
 ·have e0:=hid (show m0=m from Ou)
  have eq0:=hid (show q=true from AK)
  have e0:=e0.out
  subst e0
  have eq0:=eq0.out
  subst eq0
  clear M0 HQ
  go_enter Tryz.func24,Tryz.ntmps24
  go_wp2_with(first
   |(rw[HV.out];clear HV)
   |(refine bI rfl 22 (.tmp 19) rfl _ _ rfl (aj rp) _ (HRP.out _ _ S0.out.P) Tryz.underlying22 rfl HI8.out ?_))
  with_reducible refine(KV.out V S0.out.bel).mono ?_
  rintro e w1 ⟨rfl,hB⟩
  have S1:=hid (S0.out.below hB)
  clear hB S0 KV c0
  have SX1:=hid S1.out.lt
  go_wp2_with(first
   |(refine aP rfl 22 (.tmp 7) (.tmp 22) rfl _ 22 Z8 now 8 rfl rfl (IB.new w1 22 Z8) aH rfl NL.out ?_
     have BB:=bT w1 (.cells (agi Z8) 22) (agi now)
     obtain⟨V2,hV⟩:∃V2,V2=(w1.alloc (.cells (agi Z8) 22)).setRow w1.heap.size (agi now):=⟨_,rfl⟩
     have S2:=hid (show Fb w V2 m0 ps from UQ)
     have N2:=hid (show IB V2 w1.heap.size 22 now from UA)
     have Z2:=hid (show w1.heap.size<V2.heap.size from Blk.lt N2.out)
     rw[bW] at hV
     rw[<-hV]
     clear hV BB)
   |(refine bI rfl 22 (.tmp 24) rfl _ _ rfl (aj m0.r) _ (S2.out.A.R K0.out) Tryz.underlying22 rfl HI8'.out ?_;rw[show(aj m0.r).toArray=agi was from by rw[HW.out];rfl])
   |(refine aP rfl 22 (.tmp 9) (.tmp 25) rfl _ 22 Z8 was 8 rfl rfl (IB.new V2 22 Z8) aH rfl WL.out ?_
     have BB:=bT V2 (.cells (agi Z8) 22) (agi was)
     obtain⟨V3,hV⟩:∃V3,V3=(V2.alloc (.cells (agi Z8) 22)).setRow V2.heap.size (agi was):=⟨_,rfl⟩
     have S3:=hid (show Fc w V3 m0 ps w1.heap.size V2.heap.size now was from by rw[hV];exact⟨S2.out.below BB,Blk.below' N2.out BB,IB.stored V2 22 Z8 was,by have:=SX1.out;omega,by have:=Z2.out;omega⟩)
     have c3:=S3.out.F.P.cell 0 nV
     rw[<-P0.out] at c3
     have d3:=S3.out.F.A.csi K0.out
     have f3:=MB.frozen S3.out.F.A 101
     have S4:=hid (show Fc w (V3.setCell ⟨w.heap.size,101,none⟩ (.bool true)) m1 ps w1.heap.size V2.heap.size now was from by rw[M1.out];exact S3.out.setSi K0.out true)
     rw[bW] at hV
     rw[<-hV]
     clear hV BB))
  obtain⟨V4,hV4⟩:∃V4,V4=V3.setCell ⟨w.heap.size,101,none⟩ (.bool true):=⟨_,rfl⟩
  obtain⟨gN,hgN⟩:∃gN,gN=w1.heap.size:=⟨_,rfl⟩
  obtain⟨gW,hgW⟩:∃gW,gW=V2.heap.size:=⟨_,rfl⟩
  rw[<-hV4,<-hgN,<-hgW] at S4
  rw[<-hV4,<-hgN,<-hgW]
  clear hV4 hgN hgW c3 d3 f3 S3 N2 Z2 S2 S1 SX1 P0 M1
  go_loopw[6,30] (fun ov iv wr=> ∃(k:Nat) (A:Option Addr) (c n:Nat),k<=2/\iv=.int .i64 k/\ov=.slice A n c/\Hid (n=40*k)/\Hid (Own wr (gW+1) A c (frZ true was now ps m1 k))/\Hid (Fc w wr (frK true was now ps m1 k) ps gN gW now was)) (fun _ iv _=>2-(intOf iv).toNat)
  case atStart=>exact⟨0,none,0,0,ah,rfl,rfl,hid rfl,hid Own.nil,S4⟩
  case round=>
   clear S4
   obtain⟨k,A,c,n,hk,rfl,rfl,HN,HO,HC⟩:=hrel
   by_cases hlt:k<2
   ·have KO:=hid (KK.out k ah)
    have GO:=hid (KG.out k ah)
    have KFk:=hid (KF.out k hlt)
    have FL:=hid (qQ was now k)
    have Kn:=hid (KK.out (k+1) ah)
    have NM:=hid (show frK true was now ps m1 (k+1)=frP true (frA was now k) (frK true was now ps m1 k) (aX ps k) from rfl)
    have NZ:=hid (show frZ true was now ps m1 (k+1)=frZ true was now ps m1 k++frY true (frA was now k) (frK true was now ps m1 k) (aX ps k) from rfl)
    have YL:=hid (yC true (frA was now k) (frK true was now ps m1 k) (aX ps k))
    have LZ:=hid (show(frZ true was now ps m1 k).length=n from NU)
    have SI:=hid (show(frK true was now ps m1 k).si=true from by rw[QH];exact SI1.out)
    have UU:=KU.out k hlt
    have GA:=KA.out k hlt
    have h2:=Yu (a:=frA was now k) GO.out UU GA
    have KS:=hid (fun W=>show Calls Tryz.prog 67 #[.agg (frK true was now ps m1 k).ag] W (Gp W (frN true (frK true was now ps m1 k) (aX ps k)) (frX true (frK true was now ps m1 k) (aX ps k)) (aZ (aU (frK true was now ps m1 k)))) from by
     have h1:=aez (frK true was now ps m1 k) KO.out W
     rw[h2.1,h2.2.1] at h1
     exact h1)
    have OKM:=hid (Iz true KO.out UU)
    have XL:=hid (Iy true (frK true was now ps m1 k) UU)
    have KP:=hid (fun W A2 c2 (h:Rs W W.heap.size A2 (frX true (frK true was now ps m1 k) (aX ps k)))=>show Calls Tryz.prog 68 #[.agg (frN true (frK true was now ps m1 k) (aX ps k)).ag,.agg (agi (frA was now k)),.slice A2 40 c2] W (jW W (frP true (frA was now k) (frK true was now ps m1 k) (aX ps k)) (frY true (frA was now k) (frK true was now ps m1 k) (aX ps k))) from by
     have h1:=ZU (frN true (frK true was now ps m1 k) (aX ps k)) OKM.out (frA was now k) _ A2 c2 40 W (qQ _ _ _) h XL.out ah
     rw[h2.2.2.1,h2.2.2.2] at h1
     exact h1)
    clear h2
    generalize frN true (frK true was now ps m1 k) (aX ps k)=mm at*
    generalize frX true (frK true was now ps m1 k) (aX ps k)=xs at*
    generalize aZ (aU (frK true was now ps m1 k))=er at*
    rw[NM.out] at Kn
    generalize frP true (frA was now k) (frK true was now ps m1 k) (aX ps k)=mn at*
    generalize frY true (frA was now k) (frK true was now ps m1 k) (aX ps k)=y at*
    generalize frA was now k=a at*
    generalize frK true was now ps m1 k=mk at*
    generalize frZ true was now ps m1 k=zs at*
    generalize aX ps k=su at*
    clear KF KK KG KU KA UU GA GO
    go_wp2_with(first
     |(refine aK rfl 22 (.tmp 9) rfl _ 22 was 8 _ rfl HC.out.W Tryz.underlying22 rfl aH WL.out ?_)
     |(refine aK rfl 22 (.tmp 7) rfl _ 22 now 8 _ rfl HC.out.N Tryz.underlying22 rfl aH NL.out ?_))
    with_reducible refine(KFk.out _).mono ?_
    rintro e w5 ⟨rfl,hB⟩
    have C5:=hid (HC.out.below hB)
    have O5:=hid (HO.out.below hB)
    have SX5:=hid C5.out.glt
    clear hB HC HO KFk
    go_wp2_with(first
     |(refine aP rfl 90 (.tmp 11) (.tmp 36) rfl _ 90 Z9 a 9 rfl rfl (IB.new w5 90 Z9) bC rfl FL.out ?_
       have BB:=bT w5 (.cells (agi Z9) 90) (agi a)
       obtain⟨V6,hV⟩:∃V6,V6=(w5.alloc (.cells (agi Z9) 90)).setRow w5.heap.size (agi a):=⟨_,rfl⟩
       have C6:=hid (show Fc w V6 mk ps gN gW now was from by rw[hV];exact C5.out.below BB)
       have A6:=hid (show IB V6 w5.heap.size 90 a from by rw[hV];exact IB.stored w5 90 Z9 a)
       have O6:=hid (show Own V6 (gW+1) A c zs from by rw[hV];exact O5.out.below BB)
       have d6:=C6.out.F.A.csi KO.out
       rw[SI.out] at d6
       rw[jq] at hV
       rw[<-hV]
       clear hV BB)
     |(refine oU rfl (.tmp 2) rfl _ mk rfl C6.out.F.A KO.out ?_))
    with_reducible refine(KS.out V6).mono ?_
    rintro e w7 ⟨A7,c7,rfl,hO,hB⟩
    have C7:=hid (C6.out.below hB)
    have F7:=hid (Blk.below' A6.out hB)
    have O7:=hid (O6.out.below hB)
    have X7:=hid hO
    have SX6:=hid C6.out.glt
    have SX8:=hid hB.size
    clear hO hB KS
    have C8:=hid (C7.out.setA (mm:=mm))
    have F8:=hid (show IB (w7.setRow w.heap.size mm.ag) w5.heap.size 90 a from Blk.rowFar F7.out (by have:=C7.out.l1;have:=C7.out.l2;have:=SX5.out;omega))
    have O8:=hid (O7.out.setRow (g:=w.heap.size) (by have:=C7.out.l1;have:=C7.out.l2;omega) mm.ag)
    have X8:=hid (X7.out.setRow (g:=w.heap.size) (by have:=C7.out.l1;have:=C7.out.l2;have:=SX6.out;omega) mm.ag).reads
    obtain⟨V8,hV8⟩:∃V8,V8=w7.setRow w.heap.size mm.ag:=⟨_,rfl⟩
    rw[<-hV8] at C8 F8 O8 X8
    have HV8:=hid hV8
    clear hV8
    rw[XL.out]
    go_wp2_with(first
     |(refine iO rfl (.tmp 2) (.tmp 42) rfl _ mk mm rfl rfl C7.out.F.A KO.out OKM.out ?_;rw[<-HV8.out];clear HV8)
     |(refine oU rfl (.tmp 2) rfl _ mm rfl C8.out.F.A OKM.out ?_)
     |(refine aK rfl 90 (.tmp 11) rfl _ 90 a 9 _ rfl F8.out Tryz.underlying90 rfl bC FL.out ?_))
    with_reducible refine(KP.out V8 A7 c7 X8.out).mono ?_
    rintro e w9 ⟨A2,c2,rfl,hO,hB⟩
    have C9:=hid (C8.out.below hB)
    have O9:=hid (O8.out.below hB)
    have X9:=hid hO
    have SX9:=hid C8.out.glt
    clear hO hB KP C6 C7 C8 O6 O7 O8 X7 X8 F7 F8 A6 O5 C5 d6
    have C10:=hid (C9.out.setA (mm:=mn))
    have O10:=hid (O9.out.setRow (g:=w.heap.size) (by have:=C9.out.l1;have:=C9.out.l2;omega) mn.ag)
    have X10:=hid (X9.out.setRow (g:=w.heap.size) (by have:=C9.out.l1;have:=C9.out.l2;have:=SX9.out;omega) mn.ag).reads
    obtain⟨V10,hV10⟩:∃V10,V10=w9.setRow w.heap.size mn.ag:=⟨_,rfl⟩
    rw[<-hV10] at C10 O10 X10
    have HV10:=hid hV10
    clear hV10
    rw[YL.out]
    go_wp2_with(first
     |(refine iO rfl (.tmp 2) (.tmp 50) rfl _ mm mn rfl rfl C9.out.F.A OKM.out Kn.out ?_;rw[<-HV10.out];clear HV10)
     |(at_builtin;refine oQ rfl (.tmp 62) (.tmp 63) rfl (gW+1) A c n zs rfl LZ.out O10.out V10.heap.size A2 c2 40 y rfl YL.out X10.out jo (by have:=C10.out.glt;omega) ?_;intro A11 c11 w11 hO hG hA;have C11:=hid (C10.out.grown O10.out hG);have O11:=hid hO;clear hO hG hA))
    go_roundw
    case rel=>exact⟨k+1,A11,c11,n+40,ah,aO,rfl,hid jo,hid (by rw[NZ.out];exact O11.out),hid (by rw[NM.out];exact C11.out)⟩
    case measure=>simp[intOf]<;>omega
   obtain rfl:k=2:=ah
   obtain rfl:n=80:=HN.out
   obtain⟨mk,hmk⟩:∃mk,mk=frK true was now ps m1 2:=⟨_,rfl⟩
   have OKS:=hid (show mk.ok from AQ)
   have FZ:=hid (FM.out mk hmk)
   have LO:=hid (yF m0 ps)
   rw[<-hmk] at HC
   rw[<-FO.out _ rfl] at HO
   clear hmk FO FM KK KG KF KU KA
   generalize frO m0 ps=yf at*
   generalize frM m0 ps=mf at*
   exact l6
end Go.Proofs.YthoiikkjjaldnaaGreatDoor
