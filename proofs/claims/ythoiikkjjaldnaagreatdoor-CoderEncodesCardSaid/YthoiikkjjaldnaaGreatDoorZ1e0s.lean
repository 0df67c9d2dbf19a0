/- Texts that the law rests on. -/
import Derived.Test.YthoiikkjjaldnaaGreatDoorZ1e0h
import Derived.Test.YthoiikkjjaldnaaGreatDoorZ1e0r
namespace Go.Proofs.YthoiikkjjaldnaaGreatDoor
set_option linter.unusedVariables false
set_option linter.unusedSimpArgs false
set_option maxRecDepth 100000
set_option maxHeartbeats 8000000
open Go.RowKit
theorem ajU{m:Mm}(g:aU m=true):W64 m.nums:=by
 obtain⟨h1,h2,h3,t1,t2,t3,t4,t5⟩:=kM g
 refine aeV.2 ⟨fun x hx=>?_,mZ h2,mZ h3,fun x hx=>?_⟩
 ·have:=List.all_eq_true.1 h1 x hx
  unfold okK at this
  have h4: -31000<=x/\x<=31000:=by simpa using this
  omega
 simp only[zf,zg,or_false] at hx
 rcases hx with rfl|rfl|rfl|rfl|rfl<;>omega
theorem ajV(u:List Int):W64 (spC u):=by
 unfold spC blL
 split
 ·intro x hx
  obtain⟨i,_,rfl⟩:=List.mem_map.1 hx
  have:=Dp (u.getD 7 0)
  unfold blE
  split
  ·split<;>omega
  omega
 intro x hx;cases hx
structure Hs(w wr:World)(m:Mm)(u:List Int):Prop where
 A:MB wr w.heap.size m
 U:IB wr (w.heap.size+1) 35 u
 R:MB wr (w.heap.size+2) bZ
 bel:Below w.heap.size w wr
theorem Hs.start(w:World)(m:Mm)(u:List Int):Hs w (((w.alloc (.cells m.ag 25)).alloc (.cells (agi u) 35)).alloc (.cells Tryz.zeroCells25 25)) m u:=by
 have h1:=MB.new w m
 have h2:=IB.new (w.alloc (.cells m.ag 25)) 35 u
 have h3:=pO ((w.alloc (.cells m.ag 25)).alloc (.cells (agi u) 35))
 simp only[bU] at h2 h3
 exact abU
section
variable {w wr w':World} {m:Mm} {u:List Int}
theorem Hs.below(s:Hs w wr m u)(hb:Below wr.heap.size wr w'):Hs w w' m u:=⟨Blk.below' s.A hb,Blk.below' s.U hb,Blk.below' s.R hb,s.bel.trans (hb.mono s.bel.size)⟩
theorem Hs.lt(s:Hs w wr m u):w.heap.size+3<=wr.heap.size:=Blk.lt s.R
theorem Hs.setE(s:Hs w wr m u)(k:m.ok)(e:List Int)(he:e.length=80):Hs w (wr.setCells w.heap.size 16 (aj e)) {m with e:=e} u:=
 ⟨s.A.set_e k e he,dh ah _ _ _ s.U,dh ah _ _ _ s.R,iM (al0z _) _ _ _ s.bel⟩
theorem Hs.set3(s:Hs w wr m u)(k:m.ok)(x y z:Int):Hs w (((wr.setCell ⟨w.heap.size,98,none⟩ (.int .i64 x)).setCell ⟨w.heap.size,97,none⟩ (.int .i64 y)).setCell ⟨w.heap.size,96,none⟩ (.int .i64 z)) {m with la:=x,pi:=y,ga:=z} u:=
 ⟨((s.A.set_la k x).set_pi ⟨k.r,k.p,k.e⟩ y).set_ga ⟨k.r,k.p,k.e⟩ z,Eg ah s.U _ _ _ _ _ _,Eg ah s.R _ _ _ _ _ _,aal (al0z _) s.bel _ _ _ _ _ _⟩
end
theorem Ub(m:Mm)(k:m.ok)(u:List Int)(w:World)(T1:TabS w 5 iy)(T2:TabS w 1 aY)(hu:UOk u)(hw:W64 m.e):
 Calls Tryz.prog 56 #[.agg m.ag,.agg (agi u)] w (jW w (spM m u) (spX m u)):=by
 have hR:=Ee (fn:=Tryz.f56) (p:=4) (q:=5) rfl
 have S0:=Hs.start w m u
 obtain⟨V,hV⟩:∃V,V=(((w.alloc (.cells m.ag 25)).alloc (.cells (agi u) 35)).alloc (.cells Tryz.zeroCells25 25)):=⟨_,rfl⟩
 rw[<-hV] at S0
 have HV:=hid hV.symm
 have S0:=hid S0
 have K:=hid k
 have UL:=hid hu.l
 have h59:=hu.a
 have KL:=hid (YX (u.getD 7 0) V (T1.below S0.out.bel))
 unfold DU at KL
 have KG:=hid (fun W (h:Below w.heap.size w W)=>aeW (u.getD 1 0) W (T2.below h))
 have KB:=hid (fun W=>show Calls Tryz.prog 129 #[.agg (aj ((u.drop 2).take 4)).toArray,.int .i64 (u.getD 6 0),.int .i64 (glV (u.getD 7 0))] W (NewSE W (spC u) (aZ (blB (uI u) (u.getD 6 0) (glV (u.getD 7 0))))) from Xu (uI u) (u.getD 6 0) (glV (u.getD 7 0)) W (Il hu.l))
 have CL:=hid (Ip hu)
 have XL:=hid (o9 hu m)
 have KX:=hid (fun W A c (h:Rs W W.heap.size A (spC u))=>show Calls Tryz.prog 133 #[.agg (aj m.e).toArray,.int .i64 (20+u.getD 0 0),.int .i64 (bP (u.getD 1 0)),.slice A 40 c] W (NewSE W (spX m u) (mxR (20+u.getD 0 0) (bP (u.getD 1 0)) 40)) from ajT m.e (spC u) _ _ A c 40 W k.e h (Ip hu) ah hw (ajV u))
 have KK:=hid (fun W A c (h:Rs W W.heap.size A (spX m u))=>show Calls Tryz.prog 134 #[.agg (aj m.e).toArray,.slice A 40 c] W (fun e w'=>e=.returned (.tuple #[.agg (agi (bH m.e (spX m u))),.int .i64 0])/\Below W.heap.size W w') from Wn m.e _ A c 40 W k.e h (o9 hu m) ah (mZ (Yo m u)))
 have EL:=hid (rP k.e (o9 hu m))
 have FM:=hid (show spM m u={m with e:=bH m.e (spX m u),la:=20+u.getD 0 0,pi:=bP (u.getD 1 0),ga:=glV (u.getD 7 0)} from rfl)
 have OKS:=hid (yB k hu)
 have hi80:(Tryz.prog.info? 23).map (·.size)=some (aj m.e).length:=Be
 have HI80:=hid hi80
 have hi4:(Tryz.prog.info? 33).map (·.size)=some (aj ((u.drop 2).take 4)).length:=aa9
 have HI4:=hid hi4
 have SZ:=hid (show(Tryz.prog.info? 23).map (·.size)=some (agi (bH m.e (spX m u))).size from abo)
 have c7:=S0.out.U.cell 7 (by rw[hu.l];omega)
 clear k hu hi80 hi4 T1 T2 hV hw
 generalize spM m u=ms at*
 generalize spX m u=x at*
 generalize spC u=code at*
 generalize aZ (blB (uI u) (u.getD 6 0) (glV (u.getD 7 0)))=er1 at*
 generalize mxR (20+u.getD 0 0) (bP (u.getD 1 0)) 40=er2 at*
 generalize aZ (glB (u.getD 7 0))=er3 at*
 generalize aZ (rU (u.getD 1 0))=er4 at*
 generalize bP (u.getD 1 0)=g at*
 generalize glV (u.getD 7 0)=size at*
 generalize bH m.e x=e2 at*
 generalize u.getD 7 0=l7 at*
 obtain⟨l0,hl0⟩:∃l0,l0=u.getD 0 0:=⟨_,rfl⟩
 obtain⟨l1,hl1⟩:∃l1,l1=u.getD 1 0:=⟨_,rfl⟩
 obtain⟨l6,hl6⟩:∃l6,l6=u.getD 6 0:=⟨_,rfl⟩
 have HL0:=hid hl0
 have HL1:=hid hl1
 have HL6:=hid hl6
 rw[<-hl0] at KX FM h59
 rw[<-hl1] at KG
 rw[<-hl6] at KB
 clear hl0 hl1 hl6
 go_enter Tryz.func56,Tryz.ntmps56
 go_wp2_with(first
  |(rw[HV.out];clear HV)
  |(go_at_call 131;(with_reducible refine KL.out.mono ?_);rintro e w1 ⟨rfl,hB⟩;have S1:=hid (S0.out.below hB);clear hB;have d1:=S1.out.U.cell 1 xm;have d6:=S1.out.U.cell 6 xm;rw[<-HL1.out] at d1;rw[<-HL6.out] at d6)
  |(go_at_call 132;(with_reducible refine(KG.out w1 S1.out.bel).mono ?_);rintro e w' ⟨rfl,rfl⟩)
  |(refine bI rfl 33 (.tmp 27) rfl _ _ rfl (aj ((u.drop 2).take 4)) _ (S1.out.U.mid 2 4 xm) Tryz.underlying33 rfl HI4.out ?_)
  |(go_at_call 129;(with_reducible refine(KB.out w1).mono ?_);rintro e w2 ⟨A1,c1',rfl,hO,hB⟩;have S2:=hid (S1.out.below hB);have O2:=hid hO.reads;clear hO hB;rw[CL.out];have cu:=S2.out.U.cell 0 xm;rw[<-HL0.out] at cu)
  |(refine bI rfl 23 (.tmp 36) rfl _ _ rfl (aj m.e) _ (S2.out.A.E K.out) Tryz.underlying23 rfl HI80.out ?_)
  |(go_at_call 133;(with_reducible refine(KX.out w2 A1 c1' O2.out).mono ?_);rintro e w3 ⟨A2,c2,rfl,hO,hB⟩;have S3:=hid (S2.out.below hB);have O3:=hid hO;have LT1:=hid S2.out.lt;clear hO hB;rw[XL.out])
  |(refine bI rfl 23 (.tmp 47) rfl _ _ rfl (aj m.e) _ (S3.out.A.E K.out) Tryz.underlying23 rfl HI80.out ?_))
 with_reducible refine(KK.out w3 A2 c2 O3.out.reads).mono ?_
 rintro e w4 ⟨rfl,hB⟩
 have S4:=hid (S3.out.below hB)
 have O4:=hid (O3.out.below hB)
 clear hB
 have S5:=hid (S4.out.setE K.out e2 EL.out)
 have O5:=hid (Own.setCs (g:=w.heap.size) Bq (aj e2) 16 _ O4.out)
 have TH:=hid (show w4.there w.heap.size 16 (agi e2).size from by rw[dV,EL.out];exact S4.out.A.thereE K.out)
 obtain⟨w5,hw5⟩:∃w5,w5=w4.setCells w.heap.size 16 (aj e2):=⟨_,rfl⟩
 rw[<-hw5] at S5 O5
 have HW5:=hid hw5
 have K5:=hid (K.out.ex EL.out)
 have cu5:=S5.out.U.cell 0 xm
 rw[<-HL0.out] at cu5
 have d98:=S5.out.A.cla K5.out
 have d97:=S5.out.A.cpi K5.out
 have d96:=S5.out.A.cga K5.out
 have f98:=MB.frozen S5.out.A 98
 have f97:=MB.frozen S5.out.A 97
 have f96:=MB.frozen S5.out.A 96
 have S6:=hid (show Hs w _ ms u from FM.out▸S5.out.set3 K5.out (20+l0) g size)
 have O6:=hid (aam (b:=w.heap.size) Bq O5.out 98 97 96 (.int .i64 (20+l0)) (.int .i64 g) (.int .i64 size))
 obtain⟨w6,hw6⟩:∃w6,w6=((w5.setCell ⟨w.heap.size,98,none⟩ (.int .i64 (20+l0))).setCell ⟨w.heap.size,97,none⟩ (.int .i64 g)).setCell ⟨w.heap.size,96,none⟩ (.int .i64 size):=⟨_,rfl⟩
 rw[<-hw6] at S6 O6
 have HW6:=hid hw6.symm
 clear hw5 hw6 S3 S2 S1 S0 O2 O3 O4 KX KK KL KG KB c7 d1 d6 cu
 go_wp2_with(first
  |(refine jd rfl 23 (.tmp 53) (.tmp 51) rfl w.heap.size 16 (agi e2) rfl rfl TH.out SZ.out (gG _) ?_;rw[show(agi e2).toList=aj e2 from rfl,<-HW5.out])
  |(rw[HW6.out];clear HW6 d98 d97 d96 f98 f97 f96 cu5 HW5 TH)
  |(refine oU rfl (.tmp 2) rfl _ ms rfl S6.out.A OKS.out ?_)
  |(refine iO rfl (.tmp 4) (.tmp 62) rfl _ bZ ms rfl rfl S6.out.R jF OKS.out ?_))
 refine bg (v:=_) (hR _ _ _ ms rfl (MB.setRow S6.out.R ms) OKS.out) rfl ?_
 exact⟨A2,c2,by rw[XL.out];rfl,(O6.out.setRow (g:=w.heap.size+2) Bq ms.ag).more (base':=w.heap.size) Bq,aS S6.out.bel (g:=w.heap.size+2) ah ms.ag⟩
theorem J9(was now:List Int)(s:Nat)(w:World)(ha:was.length=8)(hb:now.length=8)(hs:s<2)(sa:bM was=true)(sb:bM now=true):
 Calls Tryz.prog 54 #[.agg (agi was),.agg (agi now),.int .i64 (s:Nat)] w (fun e w'=>e=.returned (.agg (agi (frA was now s)))/\Below w.heap.size w w'):=by
 have hR:=x8 (fn:=Tryz.f54) (p:=6) (ty:=90) rfl
 have h1:=IB.new w 22 was
 have h2:=IB.new (w.alloc (.cells (agi was) 22)) 22 now
 have h3:=IB.new ((w.alloc (.cells (agi was) 22)).alloc (.cells (agi now) 22)) 90 Z9
 simp only[bU] at h2 h3
 have B0:=(((aA _ _).alloc (al0z w.heap.size) (.cells (agi was) 22)).alloc az (.cells (agi now) 22)).alloc aJ (.cells (agi Z9) 90)
 have A0:=hid (Blk.alloc (Blk.alloc h1 (.cells (agi now) 22)) (.cells (agi Z9) 90))
 have N0:=hid (Blk.alloc h2 (.cells (agi Z9) 90))
 have R0:=hid h3
 have B0:=hid B0
 obtain⟨V,hV⟩:∃V,V=((w.alloc (.cells (agi was) 22)).alloc (.cells (agi now) 22)).alloc (.cells (agi Z9) 90):=⟨_,rfl⟩
 rw[<-hV] at A0 N0 R0 B0
 rw[jq] at hV
 have HV:=hid hV.symm
 have HA:=hid ha
 have HB:=hid hb
 obtain⟨fa,hfa⟩:∃fa,fa=frA was now s:=⟨_,rfl⟩
 have FL:=hid (show fa.length=9 from by rw[hfa];exact qQ _ _ _)
 have hs2:s=0\/s=1:=ah
 rcases hs2 with rfl|rfl
 ·have KM:=hid (fun W=>show Calls Tryz.prog 119 #[.agg (agi was),.agg (agi now),.int .i64 2] W (yu W was now 2) from aeJ was now 2 W ha hb ah ah)
  have ML:=hid (CJ was now 2)
  have KD:=hid (fun W=>show Calls Tryz.prog 120 #[.agg (agi (je was now 2))] W (uG W (je was now 2)) from aaY (je was now 2) W (CJ _ _ _))
  have FA:fa=lW (je was now 2):=hfa
  unfold yu at KM
  unfold uG at KD
  rw[<-FA] at KD
  rw[<-hfa]
  have KD:=hid KD.out
  generalize aZ (jK was now 2)=e1 at*
  generalize aZ (bM (je was now 2))=e2 at*
  generalize je was now 2=mx at*
  rename_i KDo
  clear KDo FA hfa hV h1 h2 h3 ha hb sa sb hs
  go_enter Tryz.func54,Tryz.ntmps54
  go_wp2_with(first
   |(rw[HV.out];clear HV)
   |(refine aK rfl 22 (.tmp 3) rfl _ 22 was 8 _ rfl A0.out Tryz.underlying22 rfl aH HA.out ?_)
   |(refine aK rfl 22 (.tmp 4) rfl _ 22 now 8 _ rfl N0.out Tryz.underlying22 rfl aH HB.out ?_))
  with_reducible refine(KM.out V).mono ?_
  rintro e w1 ⟨rfl,hB⟩
  have R1:=hid (Blk.below' R0.out hB)
  have B1:=hid (B0.out.trans (hB.mono B0.out.size))
  clear hB A0 N0
  go_wp2_with(first
   |(refine aP rfl 22 (.tmp 7) (.tmp 19) rfl _ 22 Z8 mx 8 rfl rfl (IB.new w1 22 Z8) aH rfl ML.out ?_
     have BB:=bT w1 (.cells (agi Z8) 22) (agi mx)
     obtain⟨V2,hV⟩:∃V2,V2=(w1.alloc (.cells (agi Z8) 22)).setRow w1.heap.size (agi mx):=⟨_,rfl⟩
     have R2:=hid (show IB V2 (w.heap.size+1+1) 90 Z9 from by rw[hV];exact Blk.below' R1.out BB)
     have B2:=hid (show Below w.heap.size w V2 from by rw[hV];exact B1.out.trans (BB.mono B1.out.size))
     have M2:=hid (show IB V2 w1.heap.size 22 mx from by rw[hV];exact IB.stored w1 22 Z8 mx)
     rw[bW] at hV
     rw[<-hV]
     clear hV BB)
   |(refine aK rfl 22 (.tmp 7) rfl _ 22 mx 8 _ rfl M2.out Tryz.underlying22 rfl aH ML.out ?_))
  with_reducible refine(KD.out V2).mono ?_
  rintro e w3 ⟨rfl,hB⟩
  have R3:=hid (Blk.below' R2.out hB)
  have B3:=hid (B2.out.trans (hB.mono B2.out.size))
  clear hB M2
  go_wp2_with(first
   |(refine aP rfl 90 (.tmp 9) (.tmp 24) rfl _ 90 Z9 fa 9 rfl rfl (IB.new w3 90 Z9) bC rfl FL.out ?_
     have BB:=bT w3 (.cells (agi Z9) 90) (agi fa)
     obtain⟨V4,hV⟩:∃V4,V4=(w3.alloc (.cells (agi Z9) 90)).setRow w3.heap.size (agi fa):=⟨_,rfl⟩
     have R4:=hid (show IB V4 (w.heap.size+1+1) 90 Z9 from UF)
     have B4:=hid (show Below w.heap.size w V4 from Ur)
     have D4:=hid (show IB V4 w3.heap.size 90 fa from by rw[hV];exact IB.stored w3 90 Z9 fa)
     rw[jq] at hV
     rw[<-hV]
     clear hV BB)
   |(refine aK rfl 90 (.tmp 9) rfl _ 90 fa 9 _ rfl D4.out Tryz.underlying90 rfl bC FL.out ?_)
   |(refine aP rfl 90 (.tmp 6) (.tmp 26) rfl _ 90 Z9 fa 9 rfl rfl R4.out bC rfl FL.out ?_))
  refine bg (v:=_) (hR _ _ _ 90 fa _ 9 rfl (IB.setRow R4.out fa) Tryz.underlying90 rfl bC FL.out) rfl ?_
  exact⟨rfl,aS B4.out ah _⟩
 ·have FA:fa=lW now:=by rw[hfa];exact agD sa sb hb
  have KD:=hid (fun W=>show Calls Tryz.prog 120 #[.agg (agi now)] W (uG W now) from aaY now W hb)
  unfold uG at KD
  rw[<-FA] at KD
  rw[<-hfa]
  have KD:=hid KD.out
  generalize aZ (bM now)=e2 at*
  rename_i KDo
  clear KDo FA hfa hV h1 h2 h3 ha hb sa sb hs
  go_enter Tryz.func54,Tryz.ntmps54
  go_wp2_with(first
   |(rw[HV.out];clear HV)
   |(refine aK rfl 22 (.tmp 4) rfl _ 22 now 8 _ rfl N0.out Tryz.underlying22 rfl aH HB.out ?_))
  with_reducible refine(KD.out V).mono ?_
  rintro e w3 ⟨rfl,hB⟩
  have R3:=hid (Blk.below' R0.out hB)
  have B3:=hid (B0.out.trans (hB.mono B0.out.size))
  clear hB A0 N0
  go_wp2_with(first
   |(refine aP rfl 90 (.tmp 11) (.tmp 30) rfl _ 90 Z9 fa 9 rfl rfl (IB.new w3 90 Z9) bC rfl FL.out ?_
     have BB:=bT w3 (.cells (agi Z9) 90) (agi fa)
     obtain⟨V4,hV⟩:∃V4,V4=(w3.alloc (.cells (agi Z9) 90)).setRow w3.heap.size (agi fa):=⟨_,rfl⟩
     have R4:=hid (show IB V4 (w.heap.size+1+1) 90 Z9 from UF)
     have B4:=hid (show Below w.heap.size w V4 from Ur)
     have D4:=hid (show IB V4 w3.heap.size 90 fa from by rw[hV];exact IB.stored w3 90 Z9 fa)
     rw[jq] at hV
     rw[<-hV]
     clear hV BB)
   |(refine aK rfl 90 (.tmp 11) rfl _ 90 fa 9 _ rfl D4.out Tryz.underlying90 rfl bC FL.out ?_)
   |(refine aP rfl 90 (.tmp 6) (.tmp 32) rfl _ 90 Z9 fa 9 rfl rfl R4.out bC rfl FL.out ?_))
  refine bg (v:=_) (hR _ _ _ 90 fa _ 9 rfl (IB.setRow R4.out fa) Tryz.underlying90 rfl bC FL.out) rfl ?_
  exact⟨rfl,aS B4.out ah _⟩
theorem aa3(q:Bool){a:List Int}{m:Mm}{u:List Int}(g:aU m=true)(h:UOk u)(ha:jH a):
 (if di a (frN q m u).p (frX q m u) then dF a (frN q m u).p (frX q m u) 40 else[])=frY q a m u/\(if di a (frN q m u).p (frX q m u) then dY (frN q m u).p (dF a (frN q m u).p (frX q m u) 40) else Z8)=(frP q a m u).p/\
 ({frN q m u with p:=(frP q a m u).p}:Mm)=frP q a m u:=by
 obtain⟨_,h2,_⟩:=kM g
 have hF:di a (frN q m u).p (frX q m u)=true:=by rw[Iw];exact zN ha h2 (Yq q m u)
 rw[if_pos hF,if_pos hF,Iw]
 unfold frY frP
 generalize dY m.p (dF a m.p (frX q m u) 40)=z
 exact⟨rfl,rfl,rfl⟩
structure Fd(w wr:World)(m:Mm)(ps:List Int)(gN:Nat)(now:List Int):Prop where
 F:Fb w wr m ps
 N:IB wr gN 22 now
 l1:w.heap.size+3<=gN
section
variable {w wr w':World} {m mm:Mm} {ps now:List Int} {gN:Nat}
theorem Fd.below(s:Fd w wr m ps gN now)(hb:Below wr.heap.size wr w'):Fd w w' m ps gN now:=⟨s.F.below hb,Blk.below' s.N hb,s.l1⟩
theorem Fd.glt(s:Fd w wr m ps gN now):gN<wr.heap.size:=Blk.lt s.N
theorem Fd.setA(s:Fd w wr m ps gN now):Fd w (wr.setRow w.heap.size mm.ag) mm ps gN now:=⟨s.F.setA,Blk.rowFar s.N Ff,s.l1⟩
theorem Fd.setP(s:Fd w wr m ps gN now)(k:m.ok)(p:List Int)(hp:p.length=8):Fd w (wr.setCells w.heap.size 8 (aj p)) {m with p:=p} ps gN now:=
 ⟨⟨s.F.A.set_p k p hp,dh ah _ _ _ s.F.P,dh ah _ _ _ s.F.R,iM (al0z _) _ _ _ s.F.bel⟩,dh Ff _ _ _ s.N,s.l1⟩
theorem Fd.grown{A:Option Addr}{c:Nat}{xs:List Int}(s:Fd w wr m ps gN now)(hO:Own wr (gN+1) A c xs)(hG:wr.grownBy w' (A.map (·.block))):Fd w w' m ps gN now:=by
 have h1:=s.l1
 have h3:=s.glt
 exact⟨⟨Blk.grownA s.F.A hG (hO.ne_ ah),Blk.grownA s.F.P hG (hO.ne_ ah),Blk.grownA s.F.R hG (hO.ne_ ah),uB s.F.bel (hO.more (base':=w.heap.size) ah) hG ah⟩,Blk.grownA s.N hG (hO.ne_ ah),s.l1⟩
end
structure FdO(w W:World)(m:Mm)(ps:List Int)(gN:Nat)(now:List Int)(A:Option Addr)(c:Nat)(zs:List Int):Prop where
 D:Fd w W m ps gN now
 O:Own W (gN+1) A c zs
structure FdX(w W:World)(m:Mm)(ps:List Int)(gN:Nat)(now:List Int)(A:Option Addr)(c:Nat)(zs:List Int)(A2:Option Addr)(x:List Int):Prop where
 D:Fd w W m ps gN now
 O:Own W (gN+1) A c zs
 X:Rs W W.heap.size A2 x
theorem FdX.below{w W w':World}{m:Mm}{ps now zs x:List Int}{gN c:Nat}{A A2:Option Addr}(s:FdX w W m ps gN now A c zs A2 x)(hb:Below W.heap.size W w'):FdX w w' m ps gN now A c zs A2 x:=
 ⟨s.D.below hb,s.O.below hb,(s.X.below hb).more hb.size⟩
theorem Uc(m:Mm)(k:m.ok)(g:aU m=true)(ps:List Int)(w:World)(T1:TabS w 5 iy)(T2:TabS w 1 aY)(T3:TabS w 0 fD)(hp:cf ps 25=true)(hl:ps.length=25):
 Calls Tryz.prog 27 #[.agg m.ag,.agg (agi ps)] w (jW w (frM m ps) (frO m ps)):=by
 have hR:=Ee (fn:=Tryz.f27) (p:=4) (q:=5) rfl
 have S0:=Fb.start w m ps
 obtain⟨V,hV⟩:∃V,V=(((w.alloc (.cells m.ag 25)).alloc (.cells (agi ps) 38)).alloc (.cells Tryz.zeroCells25 25)):=⟨_,rfl⟩
 rw[<-hV] at S0
 have HV:=hid hV.symm
 have S0:=hid S0
 obtain⟨m0,hm0⟩:∃m0,m0=fr0 m ps:=⟨_,rfl⟩
 obtain⟨q,hq⟩:∃q,q=frQ ps:=⟨_,rfl⟩
 obtain⟨rp,hrp⟩:∃rp,rp=nC ps:=⟨_,rfl⟩
 obtain⟨now,hnow⟩:∃now,now=oG ps:=⟨_,rfl⟩
 obtain⟨was,hwas⟩:∃was,was=m0.r:=⟨_,rfl⟩
 have K0:=hid (show m0.ok from by rw[hm0];exact DG k ps)
 have G0:=hid (show aU m0=true from by rw[hm0];exact QM g ps)
 have SW:=hid (show bM was=true from by rw[hwas,hm0];exact Yw g ps)
 have SN:=hid (show bM now=true from by rw[hnow];exact QO hp)
 have WL:=hid (show was.length=8 from Nb)
 have NL:=hid (show now.length=8 from by rw[hnow];exact QB ps)
 have FM:=hid (fun(z:Mm) (hz:z=frK q was now ps m0 2)=>show frM m ps={z with r:=now,er:=0,si:=q} from by
  unfold frM frE
  rw[QJ,hz,hwas,hm0,hq,hnow])
 have FO:=hid (fun(Y:List Int) (hY:Y=frZ q was now ps m0 2)=>show frO m ps=Y from by
  unfold frO
  rw[Yv,hY,hwas,hm0,hq,hnow])
 have KV:=hid (fun W (h:Below w.heap.size w W)=>show Calls Tryz.prog 52 #[.agg (aj rp).toArray] W (fun e w'=>e=.returned (.tuple #[.agg (agi now),.int .i64 0])/\Below W.heap.size W w') from by
  have h1:=XJ (nC ps) W (Iq hl) (T3.below h)
  unfold rX at h1
  rw[QC hp,DD hp 8 (al0z _),<-hnow,<-hrp] at h1
  exact h1)
 have KK:=hid (fun n (hn:n<=2)=>IG (q:=q) (was:=was) (now:=now) K0.out hp hl n hn)
 have KG:=hid (fun n (hn:n<=2)=>QF (q:=q) (was:=was) (now:=now) G0.out hp hl n hn)
 have KU:=hid (fun s (hs:s<2)=>Ir hp hl hs)
 have KA:=hid (fun s (hs:s<2)=>zO SW.out SN.out hs)
 have HRP:=hid (fun W gg (h:IB W gg 38 ps)=>show W.rangeAt gg 1 (aj rp) from by rw[hrp];exact h.mid 1 8 ah)
 have HL:=hid hl
 have TT1:=hid T1
 have TT2:=hid T2
 obtain⟨p0,hp0⟩:∃p0,p0=ps.getD 0 0:=⟨_,rfl⟩
 have hk:p0=0\/p0=1\/p0=2:=by
  exact acs
 have c0:=S0.out.P.cell 0 (by rw[hl];omega)
 rw[<-hp0] at c0
 have P0:=hid hp0
 have KM:=hid k
 have M0:=hid hm0
 have HW:=hid hwas
 have HQ:=hid hq
 have HI8:=hid (show(Tryz.prog.info? 22).map (·.size)=some (aj rp).length from by rw[aQ,hrp,Iq hl];exact aH)
 have SZ:=hid (show(Tryz.prog.info? 22).map (·.size)=some (agi now).size from by rw[dV,NL.out];exact aH)
 clear hV hrp hm0 hq hnow hwas k g hp hl hp0 T1 T2 T3
 rcases hk with rfl|rfl|rfl
 ·have e0:=hid (show m0=m from Ou)
  have eq0:=hid (show q=false from AK)
  have e0:=e0.out
  subst e0
  have eq0:=eq0.out
  subst eq0
  clear M0 HQ
  go_enter Tryz.func27,Tryz.ntmps27
  go_wp2_with(first
   |(rw[HV.out];clear HV)
   |(refine bI rfl 22 (.tmp 17) rfl _ _ rfl (aj rp) _ (HRP.out _ _ S0.out.P) Tryz.underlying22 rfl HI8.out ?_))
  with_reducible refine(KV.out V S0.out.bel).mono ?_
  rintro e w1 ⟨rfl,hB⟩
  have S1:=hid (S0.out.below hB)
  clear hB S0 KV c0
  have SX1:=hid S1.out.lt
  go_wp2_with(first
   |(refine aP rfl 22 (.tmp 6) (.tmp 20) rfl _ 22 Z8 now 8 rfl rfl (IB.new w1 22 Z8) aH rfl NL.out ?_
     have BB:=bT w1 (.cells (agi Z8) 22) (agi now)
     obtain⟨V2,hV⟩:∃V2,V2=(w1.alloc (.cells (agi Z8) 22)).setRow w1.heap.size (agi now):=⟨_,rfl⟩
     have S2:=hid (show Fd w V2 m0 ps w1.heap.size now from Uf)
     rw[bW] at hV
     rw[<-hV]
     clear hV BB))
  obtain⟨gN,hgN⟩:∃gN,gN=w1.heap.size:=⟨_,rfl⟩
  rw[<-hgN] at S2
  rw[<-hgN]
  clear hgN S1 SX1
  go_loopw[8,9] (fun ov iv wr=> ∃(k:Nat) (A:Option Addr) (c n:Nat),k<=2/\iv=.int .i64 k/\ov=.slice A n c/\Hid (n=40*k)/\Hid (Own wr (gN+1) A c (frZ false was now ps m0 k))/\Hid (Fd w wr (frK false was now ps m0 k) ps gN now)) (fun _ iv _=>2-(intOf iv).toNat)
  case atStart=>exact⟨0,none,0,0,ah,rfl,rfl,hid rfl,hid Own.nil,S2⟩
  case round=>
   clear S2
   obtain⟨k,A,c,n,hk,rfl,rfl,HN,HO,HC⟩:=hrel
   by_cases hlt:k<2
   ·exact l1
   obtain rfl:k=2:=ah
   obtain rfl:n=80:=HN.out
   obtain⟨mk,hmk⟩:∃mk,mk=frK false was now ps m0 2:=⟨_,rfl⟩
   have OKS:=hid (show mk.ok from AQ)
   have FZ:=hid (FM.out mk hmk)
   have LO:=hid (yF m0 ps)
   rw[<-hmk] at HC
   rw[<-FO.out _ rfl] at HO
   clear hmk FO FM KK KG KU KA
   generalize frO m0 ps=yf at*
   generalize frM m0 ps=mf at*
   have cp:=hid (fun W (h:IB W (w.heap.size+1) 38 ps)=>show W.cell? ⟨w.heap.size+1,0,none⟩=some (.int .i64 0) from by
    have h2:=h.cell 0 nV
    rw[<-P0.out] at h2
    exact h2)
   go_wp2
   have GL:=hid (show w.heap.size+3<gN+1 from vk)
   have HS0:wr.drew.rangeAt gN 0 (aj now)/\wr.drew.cell? ⟨w.heap.size+1,0,none⟩=some (.int .i64 0):=⟨gI (Blk.drew HC.out.N) [] (aj now) [] az rfl,cp.out wr.drew (Blk.drew HC.out.F.P)⟩
   refine wp_region_held (S:=(fun W=>W.rangeAt gN 0 (aj now)/\W.cell? ⟨w.heap.size+1,0,none⟩=some (.int .i64 0))) au ?_
   change wpAnyH _ _ _ _ _ _ _ _ wr.drew
   refine aV (i:=1) (v:=.pointer (some ⟨w.heap.size+1,0,none⟩)) rfl au au au (fun _ _ _ h=>h) (.inl ⟨aC,fun W hW=>mO⟩) HS0 ?_
   refine aV (i:=2) (v:=.int .i64 0) rfl au au au (fun _ _ _ h=>h) (.inl ⟨aC,fun W hW=>by have hc:=hW.2;go_simp⟩) HS0 ?_
   refine aV (i:=3) (v:=.bool false) rfl au au au (fun _ _ _ h=>h) (.inl ⟨aC,fun W hW=>mO⟩) HS0 ?_
   refine aV (i:=0) (v:=.agg (aj now).toArray) rfl au au au (fun _ _ _ h=>h) (yieldsIf_load_mid aC 22 (.tmp 6) rfl gN 0 rfl (aj now) _ (fun W hW=>hW.1) Tryz.underlying22 rfl EP) HS0 ?_
   refine aV (i:=4) (v:=.pointer (some ⟨w.heap.size,0,none⟩)) rfl au au au (fun _ _ _ h=>h) (.inl ⟨aC,fun W hW=>mO⟩) HS0 ?_
   have S8:=hid (show Fb w (wr.drew.setCells w.heap.size 0 (aj now)) {mk with r:=now} ps from(HC.out.F.below ((aA _ _).drew)).setRf OKS.out now NL.out)
   have N8:=hid (show IB (wr.drew.setCells w.heap.size 0 (aj now)) gN 22 now from dh vk _ _ _ (Blk.drew HC.out.N))
   have TH:=hid (show wr.drew.there w.heap.size 0 (aj now).toArray.size from by
    have h2:=(HC.out.F.below ((aA _ _).drew)).A.thereR OKS.out
    have e:(aj now).toArray.size=8:=Uz
    rw[e]
    exact h2)
   have SZN:=hid (show(Tryz.prog.info? 22).map (·.size)=some (aj now).toArray.size from Un)
   have O8:=hid (Own.setCs (g:=w.heap.size) mM (aj now) 0 _ HO.out.drew)
   obtain⟨V8,hV8⟩:∃V8,V8=wr.drew.setCells w.heap.size 0 (aj now):=⟨_,rfl⟩
   rw[<-hV8] at S8 O8 N8
   have K8:=hid (show({mk with r:=now}:Mm).ok from⟨NL.out,OKS.out.p,OKS.out.e⟩)
   have HS8:V8.rangeAt gN 0 (aj now)/\V8.cell? ⟨w.heap.size+1,0,none⟩=some (.int .i64 0):=⟨gI N8.out [] (aj now) [] az rfl,cp.out V8 S8.out.P⟩
   have d8:=S8.out.A.cer K8.out
   have f8:=MB.frozen S8.out.A 99
   have S9:=hid (S8.out.setEr K8.out 0)
   have N9:=hid (Blk.far N8.out (p:=⟨w.heap.size,99,none⟩) (show gN≠w.heap.size from UC) (.int .i64 0))
   have O9:=hid (Own.setC (g:=w.heap.size) O8.out mM 99 (.int .i64 0))
   have K9:=hid (show({mk with r:=now,er:=0}:Mm).ok from⟨NL.out,OKS.out.p,OKS.out.e⟩)
   refine fM (rs:=[5]) au az (dJ rfl (fun K hK=>?_) fN)
   rw[if_pos aC]
   simp only[Act.put,iZ,jm,jA,jB,jC,jD]
   refine qj 22 (.tmp 65) (.tmp 61) rfl w.heap.size 0 (aj now).toArray rfl rfl TH.out SZN.out (gG _) ?_
   rw[show(aj now).toArray.toList=aj now from rfl,<-hV8]
   refine hK.out _ _ HS8 (fun _=>?_)
   clear hK K hV8
   refine aV (i:=6) (v:=.pointer (some ⟨w.heap.size,99,none⟩)) rfl au au au (fun _ _ _ h=>h) (.inl ⟨aC,fun W hW=>mO⟩) HS8 ?_
   refine fM (rs:=[7]) au az (dJ rfl (fun K hK=>?_) fN)
   go_simp
   obtain⟨V9,hV9⟩:∃V9,V9=V8.setCell ⟨w.heap.size,99,none⟩ (.int .i64 0):=⟨_,rfl⟩
   rw[<-hV9] at S9 O9 N9|-
   have HS9:V9.rangeAt gN 0 (aj now)/\V9.cell? ⟨w.heap.size+1,0,none⟩=some (.int .i64 0):=⟨gI N9.out [] (aj now) [] az rfl,cp.out V9 S9.out.P⟩
   have d9:=S9.out.A.csi K9.out
   have f9:=MB.frozen S9.out.A 101
   have S10:=hid (show Fb w (V9.setCell ⟨w.heap.size,101,none⟩ (.bool false)) mf ps from by rw[FZ.out];exact S9.out.setSi K9.out false)
   have N10:=hid (Blk.far N9.out (p:=⟨w.heap.size,101,none⟩) (show gN≠w.heap.size from vk) (.bool false))
   have O10:=hid (Own.setC (g:=w.heap.size) O9.out mM 101 (.bool false))
   refine hK.out _ _ HS9 (fun _=>?_)
   clear hK K hV9 d8 f8
   refine aV (i:=8) (v:=.pointer (some ⟨w.heap.size,101,none⟩)) rfl au au au (fun _ _ _ h=>h) (.inl ⟨aC,fun W hW=>mO⟩) HS9 ?_
   refine fM (rs:=[9]) au az (dJ rfl (fun K hK=>?_) fN)
   go_simp
   obtain⟨V10,hV10⟩:∃V10,V10=V9.setCell ⟨w.heap.size,101,none⟩ (.bool false):=⟨_,rfl⟩
   rw[<-hV10] at S10 O10 N10|-
   have HS10:V10.rangeAt gN 0 (aj now)/\V10.cell? ⟨w.heap.size+1,0,none⟩=some (.int .i64 0):=⟨gI N10.out [] (aj now) [] az rfl,cp.out V10 S10.out.P⟩
   exact l14
 ·have e0:=hid (show m0=lX from by rw[M0.out];unfold fr0;rw[<-P0.out,if_pos rfl])
  have eq0:=hid (show q=false from AK)
  have eq0:=eq0.out
  subst eq0
  have KFr:=hid (fun W=>show Calls Tryz.prog 9 #[] W (fun e w'=>e=.returned (.agg m0.ag)/\Below W.heap.size W w') from by rw[e0.out];exact PO W)
  clear M0 HQ e0
  go_enter Tryz.func27,Tryz.ntmps27
  go_wp2_with(first
   |(rw[HV.out];clear HV)
   |(go_at_call 9;(with_reducible refine(KFr.out V).mono ?_);rintro e w1 ⟨rfl,hB⟩;have S1:=hid (S0.out.below hB);clear hB;have S2:=hid (S1.out.setA (mm:=m0));obtain⟨V2,hV2⟩:∃V2,V2=w1.setRow w.heap.size m0.ag:=⟨_,rfl⟩;rw[<-hV2] at S2;have HV2:=hid hV2;clear hV2)
   |(refine iO rfl (.tmp 2) (.tmp 15) rfl _ m m0 rfl rfl S1.out.A KM.out K0.out ?_;rw[<-HV2.out];clear HV2)
   |(refine bI rfl 22 (.tmp 17) rfl _ _ rfl (aj rp) _ (HRP.out _ _ S2.out.P) Tryz.underlying22 rfl HI8.out ?_))
  with_reducible refine(KV.out V2 S2.out.bel).mono ?_
  rintro e w1 ⟨rfl,hB⟩
  have S1:=hid (S2.out.below hB)
  clear hB S0 S2 KV c0 KFr
  have SX1:=hid S1.out.lt
  go_wp2_with(first
   |(refine aP rfl 22 (.tmp 6) (.tmp 20) rfl _ 22 Z8 now 8 rfl rfl (IB.new w1 22 Z8) aH rfl NL.out ?_
     have BB:=bT w1 (.cells (agi Z8) 22) (agi now)
     obtain⟨V2,hV⟩:∃V2,V2=(w1.alloc (.cells (agi Z8) 22)).setRow w1.heap.size (agi now):=⟨_,rfl⟩
     have S2:=hid (show Fd w V2 m0 ps w1.heap.size now from Uf)
     rw[bW] at hV
     rw[<-hV]
     clear hV BB))
  obtain⟨gN,hgN⟩:∃gN,gN=w1.heap.size:=⟨_,rfl⟩
  rw[<-hgN] at S2
  rw[<-hgN]
  clear hgN S1 SX1
  go_loopw[8,9] (fun ov iv wr=> ∃(k:Nat) (A:Option Addr) (c n:Nat),k<=2/\iv=.int .i64 k/\ov=.slice A n c/\Hid (n=40*k)/\Hid (Own wr (gN+1) A c (frZ false was now ps m0 k))/\Hid (Fd w wr (frK false was now ps m0 k) ps gN now)) (fun _ iv _=>2-(intOf iv).toNat)
  case atStart=>exact⟨0,none,0,0,ah,rfl,rfl,hid rfl,hid Own.nil,S2⟩
  case round=>
   clear S2
   obtain⟨k,A,c,n,hk,rfl,rfl,HN,HO,HC⟩:=hrel
   by_cases hlt:k<2
   ·exact l1
   obtain rfl:k=2:=ah
   obtain rfl:n=80:=HN.out
   obtain⟨mk,hmk⟩:∃mk,mk=frK false was now ps m0 2:=⟨_,rfl⟩
   have OKS:=hid (show mk.ok from AQ)
   have FZ:=hid (FM.out mk hmk)
   have LO:=hid (yF m ps)
   rw[<-hmk] at HC
   rw[<-FO.out _ rfl] at HO
   clear hmk FO FM KK KG KU KA
   generalize frO m ps=yf at*
   generalize frM m ps=mf at*
   have cp:=hid (fun W (h:IB W (w.heap.size+1) 38 ps)=>show W.cell? ⟨w.heap.size+1,0,none⟩=some (.int .i64 1) from by
    have h2:=h.cell 0 nV
    rw[<-P0.out] at h2
    exact h2)
   go_wp2
   have GL:=hid (show w.heap.size+3<gN+1 from vk)
   have HS0:wr.drew.rangeAt gN 0 (aj now)/\wr.drew.cell? ⟨w.heap.size+1,0,none⟩=some (.int .i64 1):=⟨gI (Blk.drew HC.out.N) [] (aj now) [] az rfl,cp.out wr.drew (Blk.drew HC.out.F.P)⟩
   refine wp_region_held (S:=(fun W=>W.rangeAt gN 0 (aj now)/\W.cell? ⟨w.heap.size+1,0,none⟩=some (.int .i64 1))) au ?_
   change wpAnyH _ _ _ _ _ _ _ _ wr.drew
   refine aV (i:=1) (v:=.pointer (some ⟨w.heap.size+1,0,none⟩)) rfl au au au (fun _ _ _ h=>h) (.inl ⟨aC,fun W hW=>mO⟩) HS0 ?_
   refine aV (i:=2) (v:=.int .i64 1) rfl au au au (fun _ _ _ h=>h) (.inl ⟨aC,fun W hW=>by have hc:=hW.2;go_simp⟩) HS0 ?_
   refine aV (i:=3) (v:=.bool false) rfl au au au (fun _ _ _ h=>h) (.inl ⟨aC,fun W hW=>mO⟩) HS0 ?_
   refine aV (i:=0) (v:=.agg (aj now).toArray) rfl au au au (fun _ _ _ h=>h) (yieldsIf_load_mid aC 22 (.tmp 6) rfl gN 0 rfl (aj now) _ (fun W hW=>hW.1) Tryz.underlying22 rfl EP) HS0 ?_
   refine aV (i:=4) (v:=.pointer (some ⟨w.heap.size,0,none⟩)) rfl au au au (fun _ _ _ h=>h) (.inl ⟨aC,fun W hW=>mO⟩) HS0 ?_
   have S8:=hid (show Fb w (wr.drew.setCells w.heap.size 0 (aj now)) {mk with r:=now} ps from(HC.out.F.below ((aA _ _).drew)).setRf OKS.out now NL.out)
   have N8:=hid (show IB (wr.drew.setCells w.heap.size 0 (aj now)) gN 22 now from dh vk _ _ _ (Blk.drew HC.out.N))
   have TH:=hid (show wr.drew.there w.heap.size 0 (aj now).toArray.size from by
    have h2:=(HC.out.F.below ((aA _ _).drew)).A.thereR OKS.out
    have e:(aj now).toArray.size=8:=Uz
    rw[e]
    exact h2)
   have SZN:=hid (show(Tryz.prog.info? 22).map (·.size)=some (aj now).toArray.size from Un)
   have O8:=hid (Own.setCs (g:=w.heap.size) mM (aj now) 0 _ HO.out.drew)
   obtain⟨V8,hV8⟩:∃V8,V8=wr.drew.setCells w.heap.size 0 (aj now):=⟨_,rfl⟩
   rw[<-hV8] at S8 O8 N8
   have K8:=hid (show({mk with r:=now}:Mm).ok from⟨NL.out,OKS.out.p,OKS.out.e⟩)
   have HS8:V8.rangeAt gN 0 (aj now)/\V8.cell? ⟨w.heap.size+1,0,none⟩=some (.int .i64 1):=⟨gI N8.out [] (aj now) [] az rfl,cp.out V8 S8.out.P⟩
   have d8:=S8.out.A.cer K8.out
   have f8:=MB.frozen S8.out.A 99
   have S9:=hid (S8.out.setEr K8.out 0)
   have N9:=hid (Blk.far N8.out (p:=⟨w.heap.size,99,none⟩) (show gN≠w.heap.size from UC) (.int .i64 0))
   have O9:=hid (Own.setC (g:=w.heap.size) O8.out mM 99 (.int .i64 0))
   have K9:=hid (show({mk with r:=now,er:=0}:Mm).ok from⟨NL.out,OKS.out.p,OKS.out.e⟩)
   refine fM (rs:=[5]) au az (dJ rfl (fun K hK=>?_) fN)
   rw[if_pos aC]
   simp only[Act.put,iZ,jm,jA,jB,jC,jD]
   refine qj 22 (.tmp 65) (.tmp 61) rfl w.heap.size 0 (aj now).toArray rfl rfl TH.out SZN.out (gG _) ?_
   rw[show(aj now).toArray.toList=aj now from rfl,<-hV8]
   refine hK.out _ _ HS8 (fun _=>?_)
   clear hK K hV8
   refine aV (i:=6) (v:=.pointer (some ⟨w.heap.size,99,none⟩)) rfl au au au (fun _ _ _ h=>h) (.inl ⟨aC,fun W hW=>mO⟩) HS8 ?_
   refine fM (rs:=[7]) au az (dJ rfl (fun K hK=>?_) fN)
   go_simp
   obtain⟨V9,hV9⟩:∃V9,V9=V8.setCell ⟨w.heap.size,99,none⟩ (.int .i64 0):=⟨_,rfl⟩
   rw[<-hV9] at S9 O9 N9|-
   have HS9:V9.rangeAt gN 0 (aj now)/\V9.cell? ⟨w.heap.size+1,0,none⟩=some (.int .i64 1):=⟨gI N9.out [] (aj now) [] az rfl,cp.out V9 S9.out.P⟩
   have d9:=S9.out.A.csi K9.out
   have f9:=MB.frozen S9.out.A 101
   have S10:=hid (show Fb w (V9.setCell ⟨w.heap.size,101,none⟩ (.bool false)) mf ps from by rw[FZ.out];exact S9.out.setSi K9.out false)
   have N10:=hid (Blk.far N9.out (p:=⟨w.heap.size,101,none⟩) (show gN≠w.heap.size from vk) (.bool false))
   have O10:=hid (Own.setC (g:=w.heap.size) O9.out mM 101 (.bool false))
   refine hK.out _ _ HS9 (fun _=>?_)
   clear hK K hV9 d8 f8
   refine aV (i:=8) (v:=.pointer (some ⟨w.heap.size,101,none⟩)) rfl au au au (fun _ _ _ h=>h) (.inl ⟨aC,fun W hW=>mO⟩) HS9 ?_
   refine fM (rs:=[9]) au az (dJ rfl (fun K hK=>?_) fN)
   go_simp
   obtain⟨V10,hV10⟩:∃V10,V10=V9.setCell ⟨w.heap.size,101,none⟩ (.bool false):=⟨_,rfl⟩
   rw[<-hV10] at S10 O10 N10|-
   have HS10:V10.rangeAt gN 0 (aj now)/\V10.cell? ⟨w.heap.size+1,0,none⟩=some (.int .i64 1):=⟨gI N10.out [] (aj now) [] az rfl,cp.out V10 S10.out.P⟩
   exact l14
 ·have e0:=hid (show m0=m from Ou)
  have eq0:=hid (show q=true from AK)
  have e0:=e0.out
  subst e0
  have eq0:=eq0.out
  subst eq0
  clear M0 HQ
  go_enter Tryz.func27,Tryz.ntmps27
  go_wp2_with(first
   |(rw[HV.out];clear HV)
   |(refine bI rfl 22 (.tmp 17) rfl _ _ rfl (aj rp) _ (HRP.out _ _ S0.out.P) Tryz.underlying22 rfl HI8.out ?_))
  with_reducible refine(KV.out V S0.out.bel).mono ?_
  rintro e w1 ⟨rfl,hB⟩
  have S1:=hid (S0.out.below hB)
  clear hB S0 KV c0
  have SX1:=hid S1.out.lt
  go_wp2_with(first
   |(refine aP rfl 22 (.tmp 6) (.tmp 20) rfl _ 22 Z8 now 8 rfl rfl (IB.new w1 22 Z8) aH rfl NL.out ?_
     have BB:=bT w1 (.cells (agi Z8) 22) (agi now)
     obtain⟨V2,hV⟩:∃V2,V2=(w1.alloc (.cells (agi Z8) 22)).setRow w1.heap.size (agi now):=⟨_,rfl⟩
     have S2:=hid (show Fd w V2 m0 ps w1.heap.size now from Uf)
     rw[bW] at hV
     rw[<-hV]
     clear hV BB))
  obtain⟨gN,hgN⟩:∃gN,gN=w1.heap.size:=⟨_,rfl⟩
  rw[<-hgN] at S2
  rw[<-hgN]
  clear hgN S1 SX1
  go_loopw[8,9] (fun ov iv wr=> ∃(k:Nat) (A:Option Addr) (c n:Nat),k<=2/\iv=.int .i64 k/\ov=.slice A n c/\Hid (n=40*k)/\Hid (Own wr (gN+1) A c (frZ true was now ps m0 k))/\Hid (Fd w wr (frK true was now ps m0 k) ps gN now)) (fun _ iv _=>2-(intOf iv).toNat)
  case atStart=>exact⟨0,none,0,0,ah,rfl,rfl,hid rfl,hid Own.nil,S2⟩
  case round=>
   clear S2
   obtain⟨k,A,c,n,hk,rfl,rfl,HN,HO,HC⟩:=hrel
   by_cases hlt:k<2
   ·have KO:=hid (KK.out k ah)
    have GO:=hid (KG.out k ah)
    have Kn:=hid (KK.out (k+1) ah)
    have NM:=hid (show frK true was now ps m0 (k+1)=frP true (frA was now k) (frK true was now ps m0 k) (aX ps k) from rfl)
    have NZ:=hid (show frZ true was now ps m0 (k+1)=frZ true was now ps m0 k++frY true (frA was now k) (frK true was now ps m0 k) (aX ps k) from rfl)
    have YL:=hid (yC true (frA was now k) (frK true was now ps m0 k) (aX ps k))
    have LZ:=hid (show(frZ true was now ps m0 k).length=n from NU)
    have UU:=KU.out k hlt
    have GA:=KA.out k hlt
    have OKM:=hid (Iz true KO.out UU)
    have XL:=hid (Iy true (frK true was now ps m0 k) UU)
    have KPd:=hid (fun W=>show Calls Tryz.prog 54 #[.agg (aj (frN true (frK true was now ps m0 k) (aX ps k)).r).toArray,.agg (aj now).toArray,.int .i64 (k:Nat)] W (fun e w'=>e=.returned (.agg (agi (frA was now k)))/\Below W.heap.size W w') from by
     rw[show(frN true (frK true was now ps m0 k) (aX ps k)).r=was from by rw[QD,QG];exact HW.out.symm]
     exact J9 was now k W WL.out NL.out hlt SW.out SN.out)
    have h3:=aa3 true GO.out UU GA
    have KMk:=hid (fun W A2 c2 (h:Rs W W.heap.size A2 (frX true (frK true was now ps m0 k) (aX ps k))) (hc:40<=c2)=>show Calls Tryz.prog 57 #[.agg (agi (frA was now k)),.agg (aj (frN true (frK true was now ps m0 k) (aX ps k)).p).toArray,.slice A2 40 c2] W (fun e w'=> ∃A3 c3 er,e=.returned (.tuple #[.slice A3 40 c3,.agg (agi (frP true (frA was now k) (frK true was now ps m0 k) (aX ps k)).p),.int .i64 er])/\Own w' W.heap.size A3 c3 (frY true (frA was now k) (frK true was now ps m0 k) (aX ps k))/\Below W.heap.size W w') from by
     have h1:=zV (frA was now k) (frN true (frK true was now ps m0 k) (aX ps k)).p _ A2 c2 40 W (qQ _ _ _) OKM.out.p h XL.out ah hc
     rw[h3.1,h3.2.1] at h1
     refine h1.mono ?_
     rintro e w' ⟨A3,c3,h1,h2,h3⟩
     rw[yC] at h1
     exact⟨A3,c3,_,h1,h2,h3⟩)
    have PM:=hid h3.2.2
    clear h3
    have h2:=Yu (a:=frA was now k) GO.out UU GA
    have KS:=hid (fun W=>show Calls Tryz.prog 77 #[.agg (frK true was now ps m0 k).ag] W (Gp W (frN true (frK true was now ps m0 k) (aX ps k)) (frX true (frK true was now ps m0 k) (aX ps k)) (aZ (aU (frK true was now ps m0 k)))) from by
     have h1:=aeC (frK true was now ps m0 k) KO.out (ajU GO.out) W
     rw[h2.1,h2.2.1] at h1
     exact h1)
    clear h2
    generalize aZ (aU (frK true was now ps m0 k))=er at*
    rw[NM.out] at Kn
    generalize frP true (frA was now k) (frK true was now ps m0 k) (aX ps k)=mn at*
    generalize frY true (frA was now k) (frK true was now ps m0 k) (aX ps k)=y at*
    generalize frN true (frK true was now ps m0 k) (aX ps k)=mm at*
    generalize frX true (frK true was now ps m0 k) (aX ps k)=x at*
    generalize frA was now k=a at*
    generalize frK true was now ps m0 k=mk at*
    generalize frZ true was now ps m0 k=zs at*
    generalize aX ps k=su at*
    have cp:=HC.out.F.P.cell 0 nV
    rw[<-P0.out] at cp
    clear KK KG KU KA UU GA GO
    go_wp2_with(first
     |(refine oU rfl (.tmp 2) rfl _ mk rfl HC.out.F.A KO.out ?_))
    with_reducible refine(KS.out wr).mono ?_
    rintro e w8 ⟨A2,c2,rfl,hO,hB⟩
    have C8:=hid (HC.out.below hB)
    have O8:=hid (HO.out.below hB)
    have X8:=hid hO
    have SXW:=hid HC.out.glt
    clear hO hB KS
    have C9:=hid (C8.out.setA (mm:=mm))
    have O9:=hid (O8.out.setRow (g:=w.heap.size) (by have:=C8.out.l1;omega) mm.ag)
    have CAP:=hid X8.out.cap.1
    have X9:=hid (X8.out.setRow (g:=w.heap.size) (by have:=C8.out.l1;have:=SXW.out;omega) mm.ag).reads
    obtain⟨V9,hV9⟩:∃V9,V9=w8.setRow w.heap.size mm.ag:=⟨_,rfl⟩
    rw[<-hV9] at C9 O9 X9
    have HV9:=hid hV9
    clear hV9
    rw[XL.out] at CAP
    rw[XL.out]
    go_wp2_with(refine iO rfl (.tmp 2) (.tmp 32) rfl _ mk mm rfl rfl C8.out.F.A KO.out OKM.out ?_;rw[<-HV9.out];clear HV9)
    clear cp
    refine mD [] [0,1,2,3,4,5,6,7] 8 [9,10,11,12,13,14,15] (fun W=>FdX w W mm ps gN now A c zs A2 x) au au rfl ⟨C9.out.below ((aA _ _).drew),O9.out.drew,X9.out.below ((aA _ _).drew)⟩ (fun _ _ d _ _ h=>mN) ?_
    simp only[iz,jZ,mJ,mL]
    refine mr ?_
    refine bu (fun K hK=>?_)
    go_simp
    apply Exists.intro
    refine⟨fun W hW=>rfl,hK _ ?_⟩
    clear hK K
    refine bu (fun K hK=>?_)
    refine iD aC 22 (.tmp 45) rfl w.heap.size 0 rfl (aj mm.r) _ (fun W hW=>hW.D.F.A.R OKM.out) Tryz.underlying22 rfl (by rw[aH,aQ,OKM.out.r]) ?_
    refine hK _ ?_;clear hK K
    refine bu (fun K hK=>?_)
    refine iD aC 22 (.tmp 6) rfl gN 0 rfl (aj now) _ (fun W hW=>gI hW.D.N [] (aj now) [] az rfl) Tryz.underlying22 rfl EP ?_
    refine hK _ ?_;clear hK K
    refine bu (fun K hK=>?_)
    go_simp
    apply Exists.intro
    refine⟨fun W hW=>rfl,hK _ ?_⟩
    clear hK K
    refine bu (fun K hK=>?_)
    go_simp
    apply Exists.intro
    refine⟨fun W hW=>?_,hK _ ?_⟩
    ·with_reducible exact(KPd.out W).mono fun e w' h=>⟨h.1,hW.below h.2⟩
    clear hK K
    refine bu (fun K hK=>?_)
    go_simp
    apply Exists.intro
    refine⟨fun W hW=>rfl,hK _ ?_⟩
    clear hK K
    refine bu (fun K hK=>?_)
    refine iD aC 22 (.tmp 50) rfl w.heap.size 8 rfl (aj mm.p) _ (fun W hW=>hW.D.F.A.P OKM.out) Tryz.underlying22 rfl (by rw[aH,aQ,OKM.out.p]) ?_
    refine hK _ ?_;clear hK K
    refine bu (fun K hK=>?_)
    go_simp
    apply Exists.intro
    refine⟨fun W hW=>rfl,hK _ ?_⟩
    clear hK K
    refine wpQuiet_nil ?_
    intro WA hWA
    have CA:=hid hWA.D
    have OA:=hid hWA.O
    have XA:=hid hWA.X
    clear hWA
    have SXA:=hid (show gN<WA.heap.size from CA.out.glt)
    go_wp2_with fail
    with_reducible refine(KMk.out WA A2 c2 XA.out CAP.out).mono ?_
    rintro e w11 ⟨A3,c3,er,rfl,hO,hB⟩
    have C11:=hid (CA.out.below hB)
    have O11:=hid (OA.out.below hB)
    have X11:=hid hO
    clear hO hB
    have C12:=hid (show Fd w (w11.setCells w.heap.size 8 (aj mn.p)) mn ps gN now from PM.out▸C11.out.setP OKM.out mn.p Kn.out.p)
    have O12:=hid (Own.setCs (g:=w.heap.size) (by have:=C11.out.l1;omega) (aj mn.p) 8 _ O11.out)
    have X12:=hid (Own.setCs (g:=w.heap.size) (by have:=C11.out.l1;have:=SXA.out;omega) (aj mn.p) 8 _ X11.out).reads
    have SZP:=hid (show(Tryz.prog.info? 22).map (·.size)=some (agi mn.p).size from by rw[dV,Kn.out.p];exact aH)
    have THP:=hid (show w11.there w.heap.size 8 (agi mn.p).size from abu)
    obtain⟨V12,hV12⟩:∃V12,V12=w11.setCells w.heap.size 8 (aj mn.p):=⟨_,rfl⟩
    rw[<-hV12] at C12 O12 X12
    have HV12:=hid hV12
    clear hV12
    go_wp2_with(first
     |(refine jd rfl 22 (.tmp 57) (.tmp 55) rfl w.heap.size 8 (agi mn.p) rfl rfl THP.out SZP.out (gG _) ?_;rw[show(agi mn.p).toList=aj mn.p from rfl,<-HV12.out];clear HV12)
     |(at_builtin;refine oQ rfl (.tmp 58) (.tmp 59) rfl (gN+1) A c n zs rfl LZ.out O12.out V12.heap.size A3 c3 40 y rfl YL.out X12.out jo (by have:=C12.out.glt;omega) ?_;intro A13 c13 w13 hO hG hA;have C13:=hid (C12.out.grown O12.out hG);have O13:=hid hO;clear hO hG hA))
    go_roundw
    case rel=>exact⟨k+1,A13,c13,n+40,ah,aO,rfl,hid jo,hid (by rw[NZ.out];exact O13.out),hid (by rw[NM.out];exact C13.out)⟩
    case measure=>simp[intOf]<;>omega
   obtain rfl:k=2:=ah
   obtain rfl:n=80:=HN.out
   obtain⟨mk,hmk⟩:∃mk,mk=frK true was now ps m0 2:=⟨_,rfl⟩
   have OKS:=hid (show mk.ok from AQ)
   have FZ:=hid (FM.out mk hmk)
   have LO:=hid (yF m0 ps)
   rw[<-hmk] at HC
   rw[<-FO.out _ rfl] at HO
   clear hmk FO FM KK KG KU KA
   generalize frO m0 ps=yf at*
   generalize frM m0 ps=mf at*
   have cp:=hid (fun W (h:IB W (w.heap.size+1) 38 ps)=>show W.cell? ⟨w.heap.size+1,0,none⟩=some (.int .i64 2) from by
    have h2:=h.cell 0 nV
    rw[<-P0.out] at h2
    exact h2)
   go_wp2
   have GL:=hid (show w.heap.size+3<gN+1 from vk)
   have HS0:wr.drew.rangeAt gN 0 (aj now)/\wr.drew.cell? ⟨w.heap.size+1,0,none⟩=some (.int .i64 2):=⟨gI (Blk.drew HC.out.N) [] (aj now) [] az rfl,cp.out wr.drew (Blk.drew HC.out.F.P)⟩
   refine wp_region_held (S:=(fun W=>W.rangeAt gN 0 (aj now)/\W.cell? ⟨w.heap.size+1,0,none⟩=some (.int .i64 2))) au ?_
   change wpAnyH _ _ _ _ _ _ _ _ wr.drew
   refine aV (i:=1) (v:=.pointer (some ⟨w.heap.size+1,0,none⟩)) rfl au au au (fun _ _ _ h=>h) (.inl ⟨aC,fun W hW=>mO⟩) HS0 ?_
   refine aV (i:=2) (v:=.int .i64 2) rfl au au au (fun _ _ _ h=>h) (.inl ⟨aC,fun W hW=>by have hc:=hW.2;go_simp⟩) HS0 ?_
   refine aV (i:=3) (v:=.bool true) rfl au au au (fun _ _ _ h=>h) (.inl ⟨aC,fun W hW=>mO⟩) HS0 ?_
   refine aV (i:=0) (v:=.agg (aj now).toArray) rfl au au au (fun _ _ _ h=>h) (yieldsIf_load_mid aC 22 (.tmp 6) rfl gN 0 rfl (aj now) _ (fun W hW=>hW.1) Tryz.underlying22 rfl EP) HS0 ?_
   refine aV (i:=4) (v:=.pointer (some ⟨w.heap.size,0,none⟩)) rfl au au au (fun _ _ _ h=>h) (.inl ⟨aC,fun W hW=>mO⟩) HS0 ?_
   have S8:=hid (show Fb w (wr.drew.setCells w.heap.size 0 (aj now)) {mk with r:=now} ps from(HC.out.F.below ((aA _ _).drew)).setRf OKS.out now NL.out)
   have N8:=hid (show IB (wr.drew.setCells w.heap.size 0 (aj now)) gN 22 now from dh vk _ _ _ (Blk.drew HC.out.N))
   have TH:=hid (show wr.drew.there w.heap.size 0 (aj now).toArray.size from by
    have h2:=(HC.out.F.below ((aA _ _).drew)).A.thereR OKS.out
    have e:(aj now).toArray.size=8:=Uz
    rw[e]
    exact h2)
   have SZN:=hid (show(Tryz.prog.info? 22).map (·.size)=some (aj now).toArray.size from Un)
   have O8:=hid (Own.setCs (g:=w.heap.size) mM (aj now) 0 _ HO.out.drew)
   obtain⟨V8,hV8⟩:∃V8,V8=wr.drew.setCells w.heap.size 0 (aj now):=⟨_,rfl⟩
   rw[<-hV8] at S8 O8 N8
   have K8:=hid (show({mk with r:=now}:Mm).ok from⟨NL.out,OKS.out.p,OKS.out.e⟩)
   have HS8:V8.rangeAt gN 0 (aj now)/\V8.cell? ⟨w.heap.size+1,0,none⟩=some (.int .i64 2):=⟨gI N8.out [] (aj now) [] az rfl,cp.out V8 S8.out.P⟩
   have d8:=S8.out.A.cer K8.out
   have f8:=MB.frozen S8.out.A 99
   have S9:=hid (S8.out.setEr K8.out 0)
   have N9:=hid (Blk.far N8.out (p:=⟨w.heap.size,99,none⟩) (show gN≠w.heap.size from UC) (.int .i64 0))
   have O9:=hid (Own.setC (g:=w.heap.size) O8.out mM 99 (.int .i64 0))
   have K9:=hid (show({mk with r:=now,er:=0}:Mm).ok from⟨NL.out,OKS.out.p,OKS.out.e⟩)
   refine fM (rs:=[5]) au az (dJ rfl (fun K hK=>?_) fN)
   rw[if_pos aC]
   simp only[Act.put,iZ,jm,jA,jB,jC,jD]
   refine qj 22 (.tmp 65) (.tmp 61) rfl w.heap.size 0 (aj now).toArray rfl rfl TH.out SZN.out (gG _) ?_
   rw[show(aj now).toArray.toList=aj now from rfl,<-hV8]
   refine hK.out _ _ HS8 (fun _=>?_)
   clear hK K hV8
   refine aV (i:=6) (v:=.pointer (some ⟨w.heap.size,99,none⟩)) rfl au au au (fun _ _ _ h=>h) (.inl ⟨aC,fun W hW=>mO⟩) HS8 ?_
   refine fM (rs:=[7]) au az (dJ rfl (fun K hK=>?_) fN)
   go_simp
   obtain⟨V9,hV9⟩:∃V9,V9=V8.setCell ⟨w.heap.size,99,none⟩ (.int .i64 0):=⟨_,rfl⟩
   rw[<-hV9] at S9 O9 N9|-
   have HS9:V9.rangeAt gN 0 (aj now)/\V9.cell? ⟨w.heap.size+1,0,none⟩=some (.int .i64 2):=⟨gI N9.out [] (aj now) [] az rfl,cp.out V9 S9.out.P⟩
   have d9:=S9.out.A.csi K9.out
   have f9:=MB.frozen S9.out.A 101
   have S10:=hid (show Fb w (V9.setCell ⟨w.heap.size,101,none⟩ (.bool true)) mf ps from by rw[FZ.out];exact S9.out.setSi K9.out true)
   have N10:=hid (Blk.far N9.out (p:=⟨w.heap.size,101,none⟩) (show gN≠w.heap.size from vk) (.bool true))
   have O10:=hid (Own.setC (g:=w.heap.size) O9.out mM 101 (.bool true))
   refine hK.out _ _ HS9 (fun _=>?_)
   clear hK K hV9 d8 f8
   refine aV (i:=8) (v:=.pointer (some ⟨w.heap.size,101,none⟩)) rfl au au au (fun _ _ _ h=>h) (.inl ⟨aC,fun W hW=>mO⟩) HS9 ?_
   refine fM (rs:=[9]) au az (dJ rfl (fun K hK=>?_) fN)
   go_simp
   obtain⟨V10,hV10⟩:∃V10,V10=V9.setCell ⟨w.heap.size,101,none⟩ (.bool true):=⟨_,rfl⟩
   rw[<-hV10] at S10 O10 N10|-
   have HS10:V10.rangeAt gN 0 (aj now)/\V10.cell? ⟨w.heap.size+1,0,none⟩=some (.int .i64 2):=⟨gI N10.out [] (aj now) [] az rfl,cp.out V10 S10.out.P⟩
   exact l14
end Go.Proofs.YthoiikkjjaldnaaGreatDoor
