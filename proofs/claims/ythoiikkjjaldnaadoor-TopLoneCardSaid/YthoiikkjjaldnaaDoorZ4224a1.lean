/- Texts that the law rests on, laid together: DeF. -/
import Derived.Test.YthoiikkjjaldnaaDoorZa889c7
import Derived.Test.YthoiikkjjaldnaaDoorZ5a4ff4
import Derived.Test.YthoiikkjjaldnaaDoorZ5940b7
set_option maxHeartbeats 8000000
namespace Go.Proofs.YthoiikkjjaldnaaDoor
set_option linter.unusedVariables false
set_option linter.unusedSimpArgs false
set_option maxRecDepth 100000
open Go.RowKit
theorem MB.set_r {w:World} {g:Nat} {m:Mm} (h:MB w g m) (k:m.ok) (r:List Int) (hr:r.length=8):MB (w.setCells g 0 (ints r)) g {m with r:=r}:=by
 have h0:Blk w g 30 ([]++(ints m.r++(ints m.p++(ints m.e++m.tl)))).toArray:=h
 exact blk_setCells (ints r) (ints m.r) [] _ w h0 (by rw[ints_len,ints_len,hr,k.r])
theorem MB.thereR {w:World} {g:Nat} {m:Mm} (h:MB w g m) (k:m.ok):w.there g 0 8:=fun j hj=>h.there k j (by omega)
theorem filter_any (was now:List Int) (s:Nat) (w:World) (ha:was.length=8) (hb:now.length=8) (hs:s<2):
 Calls Tryd.prog 30 #[.agg (agi was),.agg (agi now),.int .i64 (s:Nat)] w (fun e w'=>e= .returned (.agg (agi (frA was now s)))/\Below w.heap.size w w'):=by
 have hR:=results_row1 (fn:=Tryd.f30) (p:=6) (ty:=69) rfl
 have h1:=IB.new w 27 was
 have h2:=IB.new (w.alloc (.cells (agi was) 27)) 27 now
 have h3:=IB.new ((w.alloc (.cells (agi was) 27)).alloc (.cells (agi now) 27)) 69 Z9
 simp only[World.size_alloc] at h2 h3
 have B0:=(((Below.refl _ _).alloc (Nat.le_refl w.heap.size) (.cells (agi was) 27)).alloc (by simp) (.cells (agi now) 27)).alloc (by simp;omega) (.cells (agi Z9) 69)
 have A0:=hid (Blk.alloc (Blk.alloc h1 (.cells (agi now) 27)) (.cells (agi Z9) 69))
 have N0:=hid (Blk.alloc h2 (.cells (agi Z9) 69))
 have R0:=hid h3
 have B0:=hid B0
 have KM:=hid (fun W=>lmix_any was now ((2+2*s:Nat):Int) W ha hb)
 have ML:=hid (mixL_len was now ((2+2*s:Nat):Int))
 have KD:=hid (fun W=>direct_any (mixL was now ((2+2*s:Nat):Int)) W (mixL_len _ _ _))
 have FA:=hid (show frA was now s=dirL (mixL was now ((2+2*s:Nat):Int)) from rfl)
 have DL:=hid (dirL_len (mixL was now ((2+2*s:Nat):Int)))
 have HA:=hid ha
 have HB:=hid hb
 have KM:=KM.out
 unfold Mixes at KM
 unfold Dirs at KD
 generalize errOf (mixB was now ((2+2*s:Nat):Int))=e1 at*
 generalize errOf (steadyB (mixL was now ((2+2*s:Nat):Int)))=e2 at*
 generalize frA was now s=fa at*
 generalize mixL was now ((2+2*s:Nat):Int)=mx at*
 rw[show((2+2*s:Nat):Int)=2+2*(s:Int) by push_cast;rfl] at KM
 have KM:=hid KM
 have FA2:=FA.out
 subst FA2
 have KD:=hid KD.out
 generalize dirL mx=d at*
 obtain⟨V,hV⟩: ∃V,V=((w.alloc (.cells (agi was) 27)).alloc (.cells (agi now) 27)).alloc (.cells (agi Z9) 69):=⟨_,rfl⟩
 rw[<-hV] at A0 N0 R0 B0
 rw[z9_eq] at hV
 have HV:=hid hV.symm
 clear hV h1 h2 h3 ha hb FA
 go_enter Tryd.func30,Tryd.ntmps30
 go_wp2_with (first
  |(rw[HV.out];clear HV)
  |(refine wpList_loadI rfl 27 (.tmp 3) rfl _ 27 was 8 _ rfl A0.out Tryd.underlying27 rfl size8 HA.out ?_)
  |(refine wpList_loadI rfl 27 (.tmp 4) rfl _ 27 now 8 _ rfl N0.out Tryd.underlying27 rfl size8 HB.out ?_))
 refine(KM.out V).mono ?_
 rintro e w1 ⟨rfl,hB⟩
 have R1:=hid (Blk.below' R0.out hB)
 have B1:=hid (B0.out.trans (hB.mono B0.out.size))
 clear hB A0 N0
 go_wp2_with (first
  |(refine wpList_storeI rfl 27 (.tmp 7) (.tmp 18) rfl _ 27 Z8 mx 8 rfl rfl (IB.new w1 27 Z8) size8 rfl ML.out ?_
    have BB:=below_stored w1 (.cells (agi Z8) 27) (agi mx)
    obtain⟨V2,hV⟩: ∃V2,V2=(w1.alloc (.cells (agi Z8) 27)).setRow w1.heap.size (agi mx):=⟨_,rfl⟩
    have R2:=hid (show IB V2 (w.heap.size+1+1) 69 Z9 from by rw[hV];exact Blk.below' R1.out BB)
    have B2:=hid (show Below w.heap.size w V2 from by rw[hV];exact B1.out.trans (BB.mono B1.out.size))
    have M2:=hid (show IB V2 w1.heap.size 27 mx from by rw[hV];exact IB.stored w1 27 Z8 mx)
    rw[z8_eq] at hV
    rw[<-hV]
    clear hV BB)
  |(refine wpList_loadI rfl 27 (.tmp 7) rfl _ 27 mx 8 _ rfl M2.out Tryd.underlying27 rfl size8 ML.out ?_))
 refine(KD.out V2).mono ?_
 rintro e w3 ⟨rfl,hB⟩
 have R3:=hid (Blk.below' R2.out hB)
 have B3:=hid (B2.out.trans (hB.mono B2.out.size))
 clear hB M2
 go_wp2_with (first
  |(refine wpList_storeI rfl 69 (.tmp 9) (.tmp 23) rfl _ 69 Z9 d 9 rfl rfl (IB.new w3 69 Z9) size9 rfl DL.out ?_
    have BB:=below_stored w3 (.cells (agi Z9) 69) (agi d)
    obtain⟨V4,hV⟩: ∃V4,V4=(w3.alloc (.cells (agi Z9) 69)).setRow w3.heap.size (agi d):=⟨_,rfl⟩
    have R4:=hid (show IB V4 (w.heap.size+1+1) 69 Z9 from by rw[hV];exact Blk.below' R3.out BB)
    have B4:=hid (show Below w.heap.size w V4 from by rw[hV];exact B3.out.trans (BB.mono B3.out.size))
    have D4:=hid (show IB V4 w3.heap.size 69 d from by rw[hV];exact IB.stored w3 69 Z9 d)
    rw[z9_eq] at hV
    rw[<-hV]
    clear hV BB)
  |(refine wpList_loadI rfl 69 (.tmp 9) rfl _ 69 d 9 _ rfl D4.out Tryd.underlying69 rfl size9 DL.out ?_)
  |(refine wpList_storeI rfl 69 (.tmp 6) (.tmp 25) rfl _ 69 Z9 d 9 rfl rfl R4.out size9 rfl DL.out ?_))
 refine bodyPost_ret (v:=_) (hR _ _ _ 69 d _ 9 rfl (IB.setRow R4.out d) Tryd.underlying69 rfl size9 DL.out) rfl ?_
 exact⟨rfl,below_setRow B4.out (by omega) _⟩
structure Fb (w wr:World) (m:Mm) (ps:List Int):Prop where
 A:MB wr w.heap.size m
 P:IB wr (w.heap.size+1) 77 ps
 R:MB wr (w.heap.size+2) zeroM
 bel:Below w.heap.size w wr
theorem Fb.start (w:World) (m:Mm) (ps:List Int):
 Fb w (((w.alloc (.cells m.ag 30)).alloc (.cells (agi ps) 77)).alloc (.cells Tryd.zeroCells30 30)) m ps:=by
 have h1:=MB.new w m
 have h2:=IB.new (w.alloc (.cells m.ag 30)) 77 ps
 have h3:=newzero ((w.alloc (.cells m.ag 30)).alloc (.cells (agi ps) 77))
 simp only[World.size_alloc] at h2 h3
 exact⟨Blk.alloc (Blk.alloc h1 _) _,Blk.alloc h2 _,h3,((((Below.refl _ _).alloc (Nat.le_refl w.heap.size) (.cells m.ag 30)).alloc (by simp) (.cells (agi ps) 77)).alloc (by simp;omega) (.cells Tryd.zeroCells30 30))⟩
section
variable {w wr w':World} {m mm:Mm} {ps:List Int}
theorem Fb.below (s:Fb w wr m ps) (hb:Below wr.heap.size wr w'):Fb w w' m ps:=
 ⟨Blk.below' s.A hb,Blk.below' s.P hb,Blk.below' s.R hb,s.bel.trans (hb.mono s.bel.size)⟩
theorem Fb.lt (s:Fb w wr m ps):w.heap.size+3<=wr.heap.size:=Blk.lt s.R
theorem Fb.setA (s:Fb w wr m ps):Fb w (wr.setRow w.heap.size mm.ag) mm ps:=
 ⟨s.A.setRow mm,Blk.rowFar s.P (by omega),Blk.rowFar s.R (by omega),below_setRow s.bel (Nat.le_refl _) _⟩
theorem Fb.setSi (s:Fb w wr m ps) (k:m.ok) (x:Bool):Fb w (wr.setCell ⟨w.heap.size,101,none⟩ (.bool x)) {m with si:=x} ps:=
 ⟨s.A.set_si k x,Blk.far s.P (by simp) _,Blk.far s.R (by simp) _,s.bel.setCell (by simp) _⟩
theorem Fb.setEr (s:Fb w wr m ps) (k:m.ok) (x:Int):Fb w (wr.setCell ⟨w.heap.size,99,none⟩ (.int .i64 x)) {m with er:=x} ps:=
 ⟨s.A.set_er k x,Blk.far s.P (by simp) _,Blk.far s.R (by simp) _,s.bel.setCell (by simp) _⟩
theorem Fb.setRf (s:Fb w wr m ps) (k:m.ok) (r:List Int) (hr:r.length=8):Fb w (wr.setCells w.heap.size 0 (ints r)) {m with r:=r} ps:=
 ⟨s.A.set_r k r hr,blk_sc (by omega) _ _ _ s.P,blk_sc (by omega) _ _ _ s.R,below_sc (Nat.le_refl _) _ _ _ s.bel⟩
end
structure Fc (w wr:World) (m:Mm) (ps:List Int) (gN gW:Nat) (now was:List Int):Prop where
 F:Fb w wr m ps
 N:IB wr gN 27 now
 W:IB wr gW 27 was
 l1:w.heap.size+3<=gN
 l2:gN<gW
section
variable {w wr w':World} {m mm:Mm} {ps now was:List Int} {gN gW:Nat}
theorem Fc.below (s:Fc w wr m ps gN gW now was) (hb:Below wr.heap.size wr w'):Fc w w' m ps gN gW now was:=⟨s.F.below hb,Blk.below' s.N hb,Blk.below' s.W hb,s.l1,s.l2⟩
theorem Fc.glt (s:Fc w wr m ps gN gW now was):gW<wr.heap.size:=Blk.lt s.W
theorem Fc.setA (s:Fc w wr m ps gN gW now was):Fc w (wr.setRow w.heap.size mm.ag) mm ps gN gW now was:=⟨s.F.setA,Blk.rowFar s.N (by have:=s.l1;omega),Blk.rowFar s.W (by have:=s.l1;have:=s.l2;omega),s.l1,s.l2⟩
theorem Fc.setSi (s:Fc w wr m ps gN gW now was) (k:m.ok) (x:Bool):Fc w (wr.setCell ⟨w.heap.size,101,none⟩ (.bool x)) {m with si:=x} ps gN gW now was:=
 ⟨s.F.setSi k x,Blk.far s.N (by have:=s.l1;show gN≠w.heap.size;omega) _,Blk.far s.W (by have:=s.l1;have:=s.l2;show gW≠w.heap.size;omega) _,s.l1,s.l2⟩
theorem Fc.grown {A:Option Addr} {c:Nat} {xs:List Int} (s:Fc w wr m ps gN gW now was) (hO:Own wr (gW+1) A c xs) (hG:wr.grownBy w' (A.map (·.block))):Fc w w' m ps gN gW now was:=by
 have h1:=s.l1
 have h2:=s.l2
 have h3:=s.glt
 exact⟨⟨Blk.grownA s.F.A hG (hO.ne_ (by omega)),Blk.grownA s.F.P hG (hO.ne_ (by omega)),Blk.grownA s.F.R hG (hO.ne_ (by omega)),below_grown s.F.bel (hO.more (base':=w.heap.size) (by omega)) hG (by omega)⟩,Blk.grownA s.N hG (hO.ne_ (by omega)),Blk.grownA s.W hG (hO.ne_ (by omega)),s.l1,s.l2⟩
end
structure FrC (w W:World) (m:Mm) (ps:List Int) (gN gW:Nat) (now was:List Int) (gA:Nat) (a:List Int) (A:Option Addr) (c:Nat) (zs:List Int):Prop where
 C:Fc w W m ps gN gW now was
 F:IB W gA 69 a
 O:Own W (gW+1) A c zs
theorem sizeSub:(Tryd.prog.info? 74).map (·.size)=some 8:=by kernel_rfl
theorem frame_any (m:Mm) (k:m.ok) (g:goodM m=true) (ps:List Int) (w:World) (T1:TabA w 2 rootsL) (T2:TabA w 0 gainsL) (T3:TabA w 1 widthL) (hp:pkTo ps 25=true) (hl:ps.length=25):
 Calls Tryd.prog 34 #[.agg m.ag,.agg (agi ps)] w (PlayA w (frM m ps) (frO m ps)):=by
 have hR:=results_mem2 (fn:=Tryd.f34) (p:=4) (q:=5) rfl
 have S0:=Fb.start w m ps
 obtain⟨V,hV⟩: ∃V,V=(((w.alloc (.cells m.ag 30)).alloc (.cells (agi ps) 77)).alloc (.cells Tryd.zeroCells30 30)):=⟨_,rfl⟩
 rw[<-hV] at S0
 have HV:=hid hV.symm
 have S0:=hid S0
 obtain⟨m0,hm0⟩: ∃m0,m0=fr0 m ps:=⟨_,rfl⟩
 obtain⟨q,hq⟩: ∃q,q=frQ ps:=⟨_,rfl⟩
 obtain⟨rp,hrp⟩: ∃rp,rp=refL ps:=⟨_,rfl⟩
 obtain⟨now,hnow⟩: ∃now,now=frNow ps:=⟨_,rfl⟩
 obtain⟨m1,hm1⟩: ∃m1:Mm,m1={m0 with si:=q}:=⟨_,rfl⟩
 obtain⟨was,hwas⟩: ∃was,was=m0.r:=⟨_,rfl⟩
 have K0:=hid (show m0.ok from by rw[hm0];exact fr0_ok k ps)
 have G0:goodM m0=true:=by rw[hm0];exact fr0_good g ps
 have K1:=hid (show m1.ok from by rw[hm1];exact⟨K0.out.r,K0.out.p,K0.out.e⟩)
 have G1:=hid (show goodM m1=true from by rw[hm1];exact good_si G0 q)
 have SW:steadyB was=true:=by rw[hwas,hm0];exact fr0_steady g ps
 have SN:steadyB now=true:=by rw[hnow];exact frNow_steady hp
 have WL:=hid (show was.length=8 from by rw[hwas];exact K0.out.r)
 have NL:=hid (show now.length=8 from by rw[hnow];exact frNow_len ps)
 have FM:=hid (fun(z:Mm) (hz:z=frK q was now ps m1 2)=>show frM m ps={z with r:=now,er:=0} from by
  unfold frM frE
  rw[hz,hm1,hwas,hm0,hq,hnow])
 have FO:=hid (fun(Y:List Int) (hY:Y=frZ q was now ps m1 2)=>show frO m ps=Y from by
  unfold frO
  rw[hY,hm1,hwas,hm0,hq,hnow])
 have KV:=hid (fun W (h:Below w.heap.size w W)=>show Calls Tryd.prog 29 #[.agg (ints rp).toArray] W (fun e w'=>e= .returned (.tuple #[.agg (agi now),.int .i64 0])/\Below W.heap.size W w') from by
  have h1:=quantValues_any (refL ps) W (refL_len hl) (T3.below h)
  unfold AAns at h1
  rw[frNow_eq hp,frNow_err hp 8 (Nat.le_refl _),<-hnow,<-hrp] at h1
  exact h1)
 have KF:=hid (fun(s:Nat) (hs:s<2) W=>filter_any was now s W WL.out NL.out hs)
 have KK:=hid (fun n (hn:n<=2)=>frK_ok (q:=q) (was:=was) (now:=now) K1.out hp hl n hn)
 have KG:=hid (fun n (hn:n<=2)=>frK_good (q:=q) (was:=was) (now:=now) G1.out hp hl n hn)
 have KU:=hid (fun s (hs:s<2)=>subL_ok hp hl hs)
 have KA:=hid (fun s (hs:s<2)=>frA_good SW SN hs)
 have HRP:=hid (fun W gg (h:IB W gg 77 ps)=>show W.rangeAt gg 1 (ints rp) from by rw[hrp];exact h.mid 1 8 (by omega))
 have HL:=hid hl
 have TT1:=hid T1
 have TT2:=hid T2
 obtain⟨p0,hp0⟩: ∃p0,p0=ps.getD 0 0:=⟨_,rfl⟩
 have hk:p0=0\/p0=1\/p0=2:=by
  have h:=pkTo_at hp (show 0<25 by omega)
  have e:pkT.getD 0 0=2:=rfl
  unfold pkOk at h
  rw[e] at h
  omega
 have c0:=S0.out.P.cell 0 (by rw[hl];omega)
 rw[<-hp0] at c0
 have P0:=hid hp0
 have KM:=hid k
 have M0:=hid hm0
 have SI1:=hid (show m1.si=q from by rw[hm1])
 have M1:=hid hm1
 have HW:=hid hwas
 have HQ:=hid hq
 have HI8:=hid (show(Tryd.prog.info? 27).map (·.size)=some (ints rp).length from by rw[ints_len,hrp,refL_len hl];exact size8)
 have HI8':=hid (show(Tryd.prog.info? 27).map (·.size)=some (ints m0.r).length from by rw[ints_len,K0.out.r];exact size8)
 have SZ:=hid (show(Tryd.prog.info? 27).map (·.size)=some (agi now).size from by rw[agi_size,NL.out];exact size8)
 clear hV hrp hm0 hq hnow hm1 hwas k g hp hl hp0 T1 T2 T3 SW SN G0
 rcases hk with rfl|rfl|rfl
 ·have e0:=hid (show m0=m from by rw[M0.out];unfold fr0;rw[<-P0.out,if_neg (by decide)])
  have eq0:=hid (show q=false from by rw[HQ.out];unfold frQ;rw[<-P0.out];decide)
  have e0:=e0.out
  subst e0
  have eq0:=eq0.out
  subst eq0
  clear M0 HQ
  go_enter Tryd.func34,Tryd.ntmps34
  go_wp2_with (first
   |(rw[HV.out];clear HV)
   |(refine wpList_load_mid rfl 27 (.tmp 19) rfl _ _ rfl (ints rp) _ (HRP.out _ _ S0.out.P) Tryd.underlying27 rfl HI8.out ?_))
  with_reducible refine(KV.out V S0.out.bel).mono ?_
  rintro e w1 ⟨rfl,hB⟩
  have S1:=hid (S0.out.below hB)
  clear hB S0 KV c0
  have SX1:=hid S1.out.lt
  go_wp2_with (first
   |(refine wpList_storeI rfl 27 (.tmp 7) (.tmp 22) rfl _ 27 Z8 now 8 rfl rfl (IB.new w1 27 Z8) size8 rfl NL.out ?_
     have BB:=below_stored w1 (.cells (agi Z8) 27) (agi now)
     obtain⟨V2,hV⟩: ∃V2,V2=(w1.alloc (.cells (agi Z8) 27)).setRow w1.heap.size (agi now):=⟨_,rfl⟩
     have S2:=hid (show Fb w V2 m0 ps from by rw[hV];exact S1.out.below BB)
     have N2:=hid (show IB V2 w1.heap.size 27 now from by rw[hV];exact IB.stored w1 27 Z8 now)
     have Z2:=hid (show w1.heap.size<V2.heap.size from Blk.lt N2.out)
     rw[z8_eq] at hV
     rw[<-hV]
     clear hV BB)
   |(refine wpList_load_mid rfl 27 (.tmp 24) rfl _ _ rfl (ints m0.r) _ (S2.out.A.R K0.out) Tryd.underlying27 rfl HI8'.out ?_;rw[show(ints m0.r).toArray=agi was from by rw[HW.out];rfl])
   |(refine wpList_storeI rfl 27 (.tmp 9) (.tmp 25) rfl _ 27 Z8 was 8 rfl rfl (IB.new V2 27 Z8) size8 rfl WL.out ?_
     have BB:=below_stored V2 (.cells (agi Z8) 27) (agi was)
     obtain⟨V3,hV⟩: ∃V3,V3=(V2.alloc (.cells (agi Z8) 27)).setRow V2.heap.size (agi was):=⟨_,rfl⟩
     have S3:=hid (show Fc w V3 m0 ps w1.heap.size V2.heap.size now was from by rw[hV];exact⟨S2.out.below BB,Blk.below' N2.out BB,IB.stored V2 27 Z8 was,by have:=SX1.out;omega,by have:=Z2.out;omega⟩)
     have c3:=S3.out.F.P.cell 0 (by rw[HL.out];omega)
     rw[<-P0.out] at c3
     have d3:=S3.out.F.A.csi K0.out
     have f3:=MB.frozen S3.out.F.A 101
     have S4:=hid (show Fc w (V3.setCell ⟨w.heap.size,101,none⟩ (.bool false)) m1 ps w1.heap.size V2.heap.size now was from by rw[M1.out];exact S3.out.setSi K0.out false)
     rw[z8_eq] at hV
     rw[<-hV]
     clear hV BB))
  obtain⟨V4,hV4⟩: ∃V4,V4=V3.setCell ⟨w.heap.size,101,none⟩ (.bool false):=⟨_,rfl⟩
  obtain⟨gN,hgN⟩: ∃gN,gN=w1.heap.size:=⟨_,rfl⟩
  obtain⟨gW,hgW⟩: ∃gW,gW=V2.heap.size:=⟨_,rfl⟩
  rw[<-hV4,<-hgN,<-hgW] at S4
  rw[<-hV4,<-hgN,<-hgW]
  clear hV4 hgN hgW c3 d3 f3 S3 N2 Z2 S2 S1 SX1 P0 M1
  go_loopw [6,30] (fun ov iv wr=> ∃(k:Nat) (A:Option Addr) (c n:Nat),k<=2/\iv= .int .i64 k/\ov= .slice A n c/\Hid (n=40*k)/\Hid (Own wr (gW+1) A c (frZ false was now ps m1 k))/\Hid (Fc w wr (frK false was now ps m1 k) ps gN gW now was)) (fun _ iv _=>2-(intOf iv).toNat)
  case atStart=>exact⟨0,none,0,0,by omega,rfl,rfl,hid rfl,hid Own.nil,S4⟩
  case round=>
   clear S4
   obtain⟨k,A,c,n,hk,rfl,rfl,HN,HO,HC⟩:=hrel
   by_cases hlt:k<2
   ·have KO:=hid (KK.out k (by omega))
    have GO:=hid (KG.out k (by omega))
    have KFk:=hid (KF.out k hlt)
    have FL:=hid (frA_len was now k)
    have Kn:=hid (KK.out (k+1) (by omega))
    have NM:=hid (show frK false was now ps m1 (k+1)=frP false (frA was now k) (frK false was now ps m1 k) (subL ps k) from rfl)
    have NZ:=hid (show frZ false was now ps m1 (k+1)=frZ false was now ps m1 k++frY false (frA was now k) (frK false was now ps m1 k) (subL ps k) from rfl)
    have YL:=hid (frY_len false (frA was now k) (frK false was now ps m1 k) (subL ps k))
    have LZ:=hid (show(frZ false was now ps m1 k).length=n from by rw[frZ_len,HN.out])
    have SI:=hid (show(frK false was now ps m1 k).si=false from by rw[frK_si];exact SI1.out)
    have UU:=KU.out k hlt
    have GA:=KA.out k hlt
    have KH:=hid (fun W (h:Below w.heap.size w W)=>show Calls Tryd.prog 32 #[.agg (frK false was now ps m1 k).cs.toArray,.agg (ints (frA was now k)).toArray,.agg (ints (subL ps k)).toArray] W (PlayA W (frP false (frA was now k) (frK false was now ps m1 k) (subL ps k)) (frY false (frA was now k) (frK false was now ps m1 k) (subL ps k))) from by
     have h1:=half_any (frK false was now ps m1 k) KO.out (frA was now k) (subL ps k) W (TT1.out.below h) (TT2.out.below h) (frA_len _ _ _) UU
     have h2:=frP_voice GO.out UU GA
     rw[h2.1,h2.2] at h1
     exact h1)
    have HSU:=hid (fun W gg (h:IB W gg 77 ps)=>show W.rangeAt gg (9+k*8) (ints (subL ps k)) from by
     have h2:=h.mid (9+8*k) 8 (by rw[HL.out];omega)
     rw[show 9+8*k=9+k*8 by omega] at h2
     unfold subL
     rw[show 9+8*k=9+k*8 by omega]
     exact h2)
    have HI35:=hid (show(Tryd.prog.info? 74).map (·.size)=some (ints (subL ps k)).length from by rw[ints_len,UU.l];exact sizeSub)
    rw[NM.out] at Kn
    generalize frP false (frA was now k) (frK false was now ps m1 k) (subL ps k)=mn at*
    generalize frY false (frA was now k) (frK false was now ps m1 k) (subL ps k)=y at*
    generalize frA was now k=a at*
    generalize frK false was now ps m1 k=mk at*
    generalize frZ false was now ps m1 k=zs at*
    generalize subL ps k=su at*
    clear KF KK KG KU KA UU GA GO
    go_wp2_with (first
     |(refine wpList_loadI rfl 27 (.tmp 9) rfl _ 27 was 8 _ rfl HC.out.W Tryd.underlying27 rfl size8 WL.out ?_)
     |(refine wpList_loadI rfl 27 (.tmp 7) rfl _ 27 now 8 _ rfl HC.out.N Tryd.underlying27 rfl size8 NL.out ?_))
    with_reducible refine(KFk.out _).mono ?_
    rintro e w5 ⟨rfl,hB⟩
    have C5:=hid (HC.out.below hB)
    have O5:=hid (HO.out.below hB)
    have SX5:=hid C5.out.glt
    clear hB HC HO KFk
    go_wp2_with (first
     |(refine wpList_storeI rfl 69 (.tmp 11) (.tmp 36) rfl _ 69 Z9 a 9 rfl rfl (IB.new w5 69 Z9) size9 rfl FL.out ?_
       have BB:=below_stored w5 (.cells (agi Z9) 69) (agi a)
       obtain⟨V6,hV⟩: ∃V6,V6=(w5.alloc (.cells (agi Z9) 69)).setRow w5.heap.size (agi a):=⟨_,rfl⟩
       have C6:=hid (show Fc w V6 mk ps gN gW now was from by rw[hV];exact C5.out.below BB)
       have A6:=hid (show IB V6 w5.heap.size 69 a from by rw[hV];exact IB.stored w5 69 Z9 a)
       have O6:=hid (show Own V6 (gW+1) A c zs from by rw[hV];exact O5.out.below BB)
       have d6:=C6.out.F.A.csi KO.out
       rw[SI.out] at d6
       rw[z9_eq] at hV
       rw[<-hV]
       clear hV BB))
    obtain⟨gA,hgA⟩: ∃gA,gA=w5.heap.size:=⟨_,rfl⟩
    have GLT:=hid (show gW<gA from by rw[hgA];exact SX5.out)
    rw[<-hgA] at A6
    rw[<-hgA]
    clear hgA
    refine wp_region_ord [] [0,1,2,3,4,5] 6 [7,8,9,10,11] (fun W=>FrC w W mk ps gN gW now was gA a A c zs) (by kernel_rfl) (by kernel_rfl) rfl ⟨C6.out.below ((Below.refl _ _).drew),Blk.drew A6.out,O6.out.drew⟩ (fun _ _ d _ _ h=>by cases d<;>exact h) ?_
    simp only[opsAt,List.getElem?_toArray,List.getElem?_cons_zero,List.getElem?_cons_succ]
    refine wpYields_nil ?_
    refine wpQuiet_step (fun K hK=>?_)
    refine quiet_mid (by rfl) 30 (.tmp 2) rfl w.heap.size 0 rfl mk.cs _ (fun W hW=>MB.whole hW.C.F.A) Tryd.underlying30 rfl (by rw[sizeM,mk.len KO.out]) ?_
    refine hK _ ?_;clear hK K
    refine wpQuiet_step (fun K hK=>?_)
    refine quiet_mid (by rfl) 69 (.tmp 11) rfl gA 0 rfl (ints a) _ (fun W hW=>range_of hW.F [] (ints a) [] (by simp) rfl) Tryd.underlying69 rfl (by rw[size9,ints_len,FL.out]) ?_
    refine hK _ ?_;clear hK K
    iterate 3
     refine wpQuiet_step (fun K hK=>?_)
     go_simp
     apply Exists.intro
     refine⟨fun W hW=>rfl,hK _ ?_⟩
     clear hK K
    refine wpQuiet_step (fun K hK=>?_)
    refine quiet_mid (by rfl) 74 (.tmp 57) rfl (w.heap.size+1) (9+k*8) rfl (ints su) _ (fun W hW=>HSU.out _ _ hW.C.F.P) Tryd.underlying74 rfl HI35.out ?_
    refine hK _ ?_;clear hK K
    refine wpQuiet_nil ?_
    intro W7 hW7
    have CW:=hid hW7.C
    have OW:=hid hW7.O
    clear hW7
    have SXW:=hid (show gW<W7.heap.size from CW.out.glt)
    go_wp2_with (first
     |(go_at_call 32;(with_reducible refine(KH.out W7 CW.out.F.bel).mono ?_);rintro e w8 ⟨A2,c2,rfl,hO,hB⟩;have C8:=hid (CW.out.below hB);have O8:=hid (OW.out.below hB);have X8:=hid hO;clear hO hB;have C9:=hid (C8.out.setA (mm:=mn));have O9:=hid (O8.out.setRow (g:=w.heap.size) (by have:=C8.out.l1;have:=C8.out.l2;omega) mn.ag);have X9:=hid (X8.out.setRow (g:=w.heap.size) (by have:=C8.out.l1;have:=C8.out.l2;have:=SXW.out;omega) mn.ag).reads;obtain⟨V9,hV9⟩: ∃V9,V9=w8.setRow w.heap.size mn.ag:=⟨_,rfl⟩;rw[<-hV9] at C9 O9 X9;have HV9:=hid hV9;clear hV9;rw[YL.out])
     |(refine wpList_storeM rfl (.tmp 2) (.tmp 60) rfl _ mk mn rfl rfl C8.out.F.A KO.out Kn.out ?_;rw[<-HV9.out];clear HV9)
     |(at_builtin;refine wpList_catN rfl (.tmp 62) (.tmp 63) rfl (gW+1) A c n zs rfl LZ.out O9.out V9.heap.size A2 c2 40 y rfl YL.out X9.out (by have:=HN.out;omega) (by have:=C9.out.glt;omega) ?_;intro A10 c10 w10 hO hG hA;have C10:=hid (C9.out.grown O9.out hG);have O10:=hid hO;clear hO hG hA))
    go_roundw
    case rel=>exact⟨k+1,A10,c10,n+40,by omega,by go_num,rfl,hid (by have:=HN.out;omega),hid (by rw[NZ.out];exact O10.out),hid (by rw[NM.out];exact C10.out)⟩
    case measure=>simp[intOf]<;>omega
   ·obtain rfl:k=2:=by omega
    obtain rfl:n=80:=HN.out
    obtain⟨mk,hmk⟩: ∃mk,mk=frK false was now ps m1 2:=⟨_,rfl⟩
    have OKS:=hid (show mk.ok from by rw[hmk];exact KK.out 2 (Nat.le_refl _))
    have FZ:=hid (FM.out mk hmk)
    have LO:=hid (frO_len m0 ps)
    rw[<-hmk] at HC
    rw[<-FO.out _ rfl] at HO
    clear hmk FO FM KK KG KF KU KA
    generalize frO m0 ps=yf at*
    generalize frM m0 ps=mf at*
    have OKF:=hid (show({mk with r:=now,er:=0}:Mm).ok from⟨NL.out,OKS.out.p,OKS.out.e⟩)
    have S8:=hid (HC.out.F.setRf OKS.out now NL.out)
    have TH:=hid (show wr.there w.heap.size 0 (agi now).size from by rw[agi_size,NL.out];exact HC.out.F.A.thereR OKS.out)
    have O8:=hid (Own.setCs (g:=w.heap.size) (by have:=HC.out.l1;have:=HC.out.l2;omega) (ints now) 0 _ HO.out)
    have GL:=hid (show w.heap.size+3<gW+1 from by have:=HC.out.l1;have:=HC.out.l2;omega)
    obtain⟨V8,hV8⟩: ∃V8,V8=wr.setCells w.heap.size 0 (ints now):=⟨_,rfl⟩
    rw[<-hV8] at S8 O8
    have HV8:=hid hV8
    have K8:=hid (show({mk with r:=now}:Mm).ok from⟨NL.out,OKS.out.p,OKS.out.e⟩)
    have d8:=S8.out.A.cer K8.out
    have f8:=MB.frozen S8.out.A 99
    have S9:=hid (show Fb w (V8.setCell ⟨w.heap.size,99,none⟩ (.int .i64 0)) mf ps from by rw[FZ.out];exact S8.out.setEr K8.out 0)
    have O9:=hid (Own.setC (g:=w.heap.size) O8.out (by have:=GL.out;omega) 99 (.int .i64 0))
    obtain⟨V9,hV9⟩: ∃V9,V9=V8.setCell ⟨w.heap.size,99,none⟩ (.int .i64 0):=⟨_,rfl⟩
    rw[<-hV9] at S9 O9
    have HV9:=hid hV9.symm
    rw[<-FZ.out] at OKF
    clear hV8 hV9
    go_wp2_with (first
     |(refine wpList_loadI rfl 27 (.tmp 7) rfl _ 27 now 8 _ rfl HC.out.N Tryd.underlying27 rfl size8 NL.out ?_)
     |(refine wpList_store_mid rfl 27 (.tmp 67) (.tmp 66) rfl w.heap.size 0 (agi now) rfl rfl TH.out SZ.out (agi_one _) ?_;rw[show(agi now).toList=ints now from rfl,<-HV8.out])
     |(rw[HV9.out];clear HV9 d8 f8)
     |(refine wpList_loadM rfl (.tmp 2) rfl _ mf rfl S9.out.A OKF.out ?_)
     |(refine wpList_storeM rfl (.tmp 4) (.tmp 69) rfl _ zeroM mf rfl rfl S9.out.R zeroM_ok OKF.out ?_))
    refine bodyPost_ret (v:=_) (hR _ _ _ mf rfl (MB.setRow S9.out.R mf) OKF.out) rfl ?_
    exact⟨A,c,by rw[LO.out];rfl,(O9.out.setRow (g:=w.heap.size+2) (by have:=GL.out;omega) mf.ag).more (base':=w.heap.size) (by have:=GL.out;omega),below_setRow S9.out.bel (g:=w.heap.size+2) (by omega) mf.ag⟩
 ·have e0:=hid (show m0=freshM from by rw[M0.out];unfold fr0;rw[<-P0.out,if_pos rfl])
  have eq0:=hid (show q=false from by rw[HQ.out];unfold frQ;rw[<-P0.out];decide)
  have eq0:=eq0.out
  subst eq0
  have KFr:=hid (fun W=>show Calls Tryd.prog 8 #[] W (fun e w'=>e= .returned (.agg m0.ag)/\Below W.heap.size W w') from by rw[e0.out];exact fresh_any W)
  clear M0 HQ e0
  go_enter Tryd.func34,Tryd.ntmps34
  go_wp2_with (first
   |(rw[HV.out];clear HV)
   |(go_at_call 8;(with_reducible refine(KFr.out V).mono ?_);rintro e w1 ⟨rfl,hB⟩;have S1:=hid (S0.out.below hB);clear hB;have S2:=hid (S1.out.setA (mm:=m0));obtain⟨V2,hV2⟩: ∃V2,V2=w1.setRow w.heap.size m0.ag:=⟨_,rfl⟩;rw[<-hV2] at S2;have HV2:=hid hV2;clear hV2)
   |(refine wpList_storeM rfl (.tmp 2) (.tmp 17) rfl _ m m0 rfl rfl S1.out.A KM.out K0.out ?_;rw[<-HV2.out];clear HV2)
   |(refine wpList_load_mid rfl 27 (.tmp 19) rfl _ _ rfl (ints rp) _ (HRP.out _ _ S2.out.P) Tryd.underlying27 rfl HI8.out ?_))
  with_reducible refine(KV.out V2 S2.out.bel).mono ?_
  rintro e w1 ⟨rfl,hB⟩
  have S1:=hid (S2.out.below hB)
  clear hB S0 S2 KV c0 KFr
  have SX1:=hid S1.out.lt
  go_wp2_with (first
   |(refine wpList_storeI rfl 27 (.tmp 7) (.tmp 22) rfl _ 27 Z8 now 8 rfl rfl (IB.new w1 27 Z8) size8 rfl NL.out ?_
     have BB:=below_stored w1 (.cells (agi Z8) 27) (agi now)
     obtain⟨V2,hV⟩: ∃V2,V2=(w1.alloc (.cells (agi Z8) 27)).setRow w1.heap.size (agi now):=⟨_,rfl⟩
     have S2:=hid (show Fb w V2 m0 ps from by rw[hV];exact S1.out.below BB)
     have N2:=hid (show IB V2 w1.heap.size 27 now from by rw[hV];exact IB.stored w1 27 Z8 now)
     have Z2:=hid (show w1.heap.size<V2.heap.size from Blk.lt N2.out)
     rw[z8_eq] at hV
     rw[<-hV]
     clear hV BB)
   |(refine wpList_load_mid rfl 27 (.tmp 24) rfl _ _ rfl (ints m0.r) _ (S2.out.A.R K0.out) Tryd.underlying27 rfl HI8'.out ?_;rw[show(ints m0.r).toArray=agi was from by rw[HW.out];rfl])
   |(refine wpList_storeI rfl 27 (.tmp 9) (.tmp 25) rfl _ 27 Z8 was 8 rfl rfl (IB.new V2 27 Z8) size8 rfl WL.out ?_
     have BB:=below_stored V2 (.cells (agi Z8) 27) (agi was)
     obtain⟨V3,hV⟩: ∃V3,V3=(V2.alloc (.cells (agi Z8) 27)).setRow V2.heap.size (agi was):=⟨_,rfl⟩
     have S3:=hid (show Fc w V3 m0 ps w1.heap.size V2.heap.size now was from by rw[hV];exact⟨S2.out.below BB,Blk.below' N2.out BB,IB.stored V2 27 Z8 was,by have:=SX1.out;omega,by have:=Z2.out;omega⟩)
     have c3:=S3.out.F.P.cell 0 (by rw[HL.out];omega)
     rw[<-P0.out] at c3
     have d3:=S3.out.F.A.csi K0.out
     have f3:=MB.frozen S3.out.F.A 101
     have S4:=hid (show Fc w (V3.setCell ⟨w.heap.size,101,none⟩ (.bool false)) m1 ps w1.heap.size V2.heap.size now was from by rw[M1.out];exact S3.out.setSi K0.out false)
     rw[z8_eq] at hV
     rw[<-hV]
     clear hV BB))
  obtain⟨V4,hV4⟩: ∃V4,V4=V3.setCell ⟨w.heap.size,101,none⟩ (.bool false):=⟨_,rfl⟩
  obtain⟨gN,hgN⟩: ∃gN,gN=w1.heap.size:=⟨_,rfl⟩
  obtain⟨gW,hgW⟩: ∃gW,gW=V2.heap.size:=⟨_,rfl⟩
  rw[<-hV4,<-hgN,<-hgW] at S4
  rw[<-hV4,<-hgN,<-hgW]
  clear hV4 hgN hgW c3 d3 f3 S3 N2 Z2 S2 S1 SX1 P0 M1
  go_loopw [6,30] (fun ov iv wr=> ∃(k:Nat) (A:Option Addr) (c n:Nat),k<=2/\iv= .int .i64 k/\ov= .slice A n c/\Hid (n=40*k)/\Hid (Own wr (gW+1) A c (frZ false was now ps m1 k))/\Hid (Fc w wr (frK false was now ps m1 k) ps gN gW now was)) (fun _ iv _=>2-(intOf iv).toNat)
  case atStart=>exact⟨0,none,0,0,by omega,rfl,rfl,hid rfl,hid Own.nil,S4⟩
  case round=>
   clear S4
   obtain⟨k,A,c,n,hk,rfl,rfl,HN,HO,HC⟩:=hrel
   by_cases hlt:k<2
   ·have KO:=hid (KK.out k (by omega))
    have GO:=hid (KG.out k (by omega))
    have KFk:=hid (KF.out k hlt)
    have FL:=hid (frA_len was now k)
    have Kn:=hid (KK.out (k+1) (by omega))
    have NM:=hid (show frK false was now ps m1 (k+1)=frP false (frA was now k) (frK false was now ps m1 k) (subL ps k) from rfl)
    have NZ:=hid (show frZ false was now ps m1 (k+1)=frZ false was now ps m1 k++frY false (frA was now k) (frK false was now ps m1 k) (subL ps k) from rfl)
    have YL:=hid (frY_len false (frA was now k) (frK false was now ps m1 k) (subL ps k))
    have LZ:=hid (show(frZ false was now ps m1 k).length=n from by rw[frZ_len,HN.out])
    have SI:=hid (show(frK false was now ps m1 k).si=false from by rw[frK_si];exact SI1.out)
    have UU:=KU.out k hlt
    have GA:=KA.out k hlt
    have KH:=hid (fun W (h:Below w.heap.size w W)=>show Calls Tryd.prog 32 #[.agg (frK false was now ps m1 k).cs.toArray,.agg (ints (frA was now k)).toArray,.agg (ints (subL ps k)).toArray] W (PlayA W (frP false (frA was now k) (frK false was now ps m1 k) (subL ps k)) (frY false (frA was now k) (frK false was now ps m1 k) (subL ps k))) from by
     have h1:=half_any (frK false was now ps m1 k) KO.out (frA was now k) (subL ps k) W (TT1.out.below h) (TT2.out.below h) (frA_len _ _ _) UU
     have h2:=frP_voice GO.out UU GA
     rw[h2.1,h2.2] at h1
     exact h1)
    have HSU:=hid (fun W gg (h:IB W gg 77 ps)=>show W.rangeAt gg (9+k*8) (ints (subL ps k)) from by
     have h2:=h.mid (9+8*k) 8 (by rw[HL.out];omega)
     rw[show 9+8*k=9+k*8 by omega] at h2
     unfold subL
     rw[show 9+8*k=9+k*8 by omega]
     exact h2)
    have HI35:=hid (show(Tryd.prog.info? 74).map (·.size)=some (ints (subL ps k)).length from by rw[ints_len,UU.l];exact sizeSub)
    rw[NM.out] at Kn
    generalize frP false (frA was now k) (frK false was now ps m1 k) (subL ps k)=mn at*
    generalize frY false (frA was now k) (frK false was now ps m1 k) (subL ps k)=y at*
    generalize frA was now k=a at*
    generalize frK false was now ps m1 k=mk at*
    generalize frZ false was now ps m1 k=zs at*
    generalize subL ps k=su at*
    clear KF KK KG KU KA UU GA GO
    go_wp2_with (first
     |(refine wpList_loadI rfl 27 (.tmp 9) rfl _ 27 was 8 _ rfl HC.out.W Tryd.underlying27 rfl size8 WL.out ?_)
     |(refine wpList_loadI rfl 27 (.tmp 7) rfl _ 27 now 8 _ rfl HC.out.N Tryd.underlying27 rfl size8 NL.out ?_))
    with_reducible refine(KFk.out _).mono ?_
    rintro e w5 ⟨rfl,hB⟩
    have C5:=hid (HC.out.below hB)
    have O5:=hid (HO.out.below hB)
    have SX5:=hid C5.out.glt
    clear hB HC HO KFk
    go_wp2_with (first
     |(refine wpList_storeI rfl 69 (.tmp 11) (.tmp 36) rfl _ 69 Z9 a 9 rfl rfl (IB.new w5 69 Z9) size9 rfl FL.out ?_
       have BB:=below_stored w5 (.cells (agi Z9) 69) (agi a)
       obtain⟨V6,hV⟩: ∃V6,V6=(w5.alloc (.cells (agi Z9) 69)).setRow w5.heap.size (agi a):=⟨_,rfl⟩
       have C6:=hid (show Fc w V6 mk ps gN gW now was from by rw[hV];exact C5.out.below BB)
       have A6:=hid (show IB V6 w5.heap.size 69 a from by rw[hV];exact IB.stored w5 69 Z9 a)
       have O6:=hid (show Own V6 (gW+1) A c zs from by rw[hV];exact O5.out.below BB)
       have d6:=C6.out.F.A.csi KO.out
       rw[SI.out] at d6
       rw[z9_eq] at hV
       rw[<-hV]
       clear hV BB))
    obtain⟨gA,hgA⟩: ∃gA,gA=w5.heap.size:=⟨_,rfl⟩
    have GLT:=hid (show gW<gA from by rw[hgA];exact SX5.out)
    rw[<-hgA] at A6
    rw[<-hgA]
    clear hgA
    refine wp_region_ord [] [0,1,2,3,4,5] 6 [7,8,9,10,11] (fun W=>FrC w W mk ps gN gW now was gA a A c zs) (by kernel_rfl) (by kernel_rfl) rfl ⟨C6.out.below ((Below.refl _ _).drew),Blk.drew A6.out,O6.out.drew⟩ (fun _ _ d _ _ h=>by cases d<;>exact h) ?_
    simp only[opsAt,List.getElem?_toArray,List.getElem?_cons_zero,List.getElem?_cons_succ]
    refine wpYields_nil ?_
    refine wpQuiet_step (fun K hK=>?_)
    refine quiet_mid (by rfl) 30 (.tmp 2) rfl w.heap.size 0 rfl mk.cs _ (fun W hW=>MB.whole hW.C.F.A) Tryd.underlying30 rfl (by rw[sizeM,mk.len KO.out]) ?_
    refine hK _ ?_;clear hK K
    refine wpQuiet_step (fun K hK=>?_)
    refine quiet_mid (by rfl) 69 (.tmp 11) rfl gA 0 rfl (ints a) _ (fun W hW=>range_of hW.F [] (ints a) [] (by simp) rfl) Tryd.underlying69 rfl (by rw[size9,ints_len,FL.out]) ?_
    refine hK _ ?_;clear hK K
    iterate 3
     refine wpQuiet_step (fun K hK=>?_)
     go_simp
     apply Exists.intro
     refine⟨fun W hW=>rfl,hK _ ?_⟩
     clear hK K
    refine wpQuiet_step (fun K hK=>?_)
    refine quiet_mid (by rfl) 74 (.tmp 57) rfl (w.heap.size+1) (9+k*8) rfl (ints su) _ (fun W hW=>HSU.out _ _ hW.C.F.P) Tryd.underlying74 rfl HI35.out ?_
    refine hK _ ?_;clear hK K
    refine wpQuiet_nil ?_
    intro W7 hW7
    have CW:=hid hW7.C
    have OW:=hid hW7.O
    clear hW7
    have SXW:=hid (show gW<W7.heap.size from CW.out.glt)
    go_wp2_with (first
     |(go_at_call 32;(with_reducible refine(KH.out W7 CW.out.F.bel).mono ?_);rintro e w8 ⟨A2,c2,rfl,hO,hB⟩;have C8:=hid (CW.out.below hB);have O8:=hid (OW.out.below hB);have X8:=hid hO;clear hO hB;have C9:=hid (C8.out.setA (mm:=mn));have O9:=hid (O8.out.setRow (g:=w.heap.size) (by have:=C8.out.l1;have:=C8.out.l2;omega) mn.ag);have X9:=hid (X8.out.setRow (g:=w.heap.size) (by have:=C8.out.l1;have:=C8.out.l2;have:=SXW.out;omega) mn.ag).reads;obtain⟨V9,hV9⟩: ∃V9,V9=w8.setRow w.heap.size mn.ag:=⟨_,rfl⟩;rw[<-hV9] at C9 O9 X9;have HV9:=hid hV9;clear hV9;rw[YL.out])
     |(refine wpList_storeM rfl (.tmp 2) (.tmp 60) rfl _ mk mn rfl rfl C8.out.F.A KO.out Kn.out ?_;rw[<-HV9.out];clear HV9)
     |(at_builtin;refine wpList_catN rfl (.tmp 62) (.tmp 63) rfl (gW+1) A c n zs rfl LZ.out O9.out V9.heap.size A2 c2 40 y rfl YL.out X9.out (by have:=HN.out;omega) (by have:=C9.out.glt;omega) ?_;intro A10 c10 w10 hO hG hA;have C10:=hid (C9.out.grown O9.out hG);have O10:=hid hO;clear hO hG hA))
    go_roundw
    case rel=>exact⟨k+1,A10,c10,n+40,by omega,by go_num,rfl,hid (by have:=HN.out;omega),hid (by rw[NZ.out];exact O10.out),hid (by rw[NM.out];exact C10.out)⟩
    case measure=>simp[intOf]<;>omega
   ·obtain rfl:k=2:=by omega
    obtain rfl:n=80:=HN.out
    obtain⟨mk,hmk⟩: ∃mk,mk=frK false was now ps m1 2:=⟨_,rfl⟩
    have OKS:=hid (show mk.ok from by rw[hmk];exact KK.out 2 (Nat.le_refl _))
    have FZ:=hid (FM.out mk hmk)
    have LO:=hid (frO_len m ps)
    rw[<-hmk] at HC
    rw[<-FO.out _ rfl] at HO
    clear hmk FO FM KK KG KF KU KA
    generalize frO m ps=yf at*
    generalize frM m ps=mf at*
    have OKF:=hid (show({mk with r:=now,er:=0}:Mm).ok from⟨NL.out,OKS.out.p,OKS.out.e⟩)
    have S8:=hid (HC.out.F.setRf OKS.out now NL.out)
    have TH:=hid (show wr.there w.heap.size 0 (agi now).size from by rw[agi_size,NL.out];exact HC.out.F.A.thereR OKS.out)
    have O8:=hid (Own.setCs (g:=w.heap.size) (by have:=HC.out.l1;have:=HC.out.l2;omega) (ints now) 0 _ HO.out)
    have GL:=hid (show w.heap.size+3<gW+1 from by have:=HC.out.l1;have:=HC.out.l2;omega)
    obtain⟨V8,hV8⟩: ∃V8,V8=wr.setCells w.heap.size 0 (ints now):=⟨_,rfl⟩
    rw[<-hV8] at S8 O8
    have HV8:=hid hV8
    have K8:=hid (show({mk with r:=now}:Mm).ok from⟨NL.out,OKS.out.p,OKS.out.e⟩)
    have d8:=S8.out.A.cer K8.out
    have f8:=MB.frozen S8.out.A 99
    have S9:=hid (show Fb w (V8.setCell ⟨w.heap.size,99,none⟩ (.int .i64 0)) mf ps from by rw[FZ.out];exact S8.out.setEr K8.out 0)
    have O9:=hid (Own.setC (g:=w.heap.size) O8.out (by have:=GL.out;omega) 99 (.int .i64 0))
    obtain⟨V9,hV9⟩: ∃V9,V9=V8.setCell ⟨w.heap.size,99,none⟩ (.int .i64 0):=⟨_,rfl⟩
    rw[<-hV9] at S9 O9
    have HV9:=hid hV9.symm
    rw[<-FZ.out] at OKF
    clear hV8 hV9
    go_wp2_with (first
     |(refine wpList_loadI rfl 27 (.tmp 7) rfl _ 27 now 8 _ rfl HC.out.N Tryd.underlying27 rfl size8 NL.out ?_)
     |(refine wpList_store_mid rfl 27 (.tmp 67) (.tmp 66) rfl w.heap.size 0 (agi now) rfl rfl TH.out SZ.out (agi_one _) ?_;rw[show(agi now).toList=ints now from rfl,<-HV8.out])
     |(rw[HV9.out];clear HV9 d8 f8)
     |(refine wpList_loadM rfl (.tmp 2) rfl _ mf rfl S9.out.A OKF.out ?_)
     |(refine wpList_storeM rfl (.tmp 4) (.tmp 69) rfl _ zeroM mf rfl rfl S9.out.R zeroM_ok OKF.out ?_))
    refine bodyPost_ret (v:=_) (hR _ _ _ mf rfl (MB.setRow S9.out.R mf) OKF.out) rfl ?_
    exact⟨A,c,by rw[LO.out];rfl,(O9.out.setRow (g:=w.heap.size+2) (by have:=GL.out;omega) mf.ag).more (base':=w.heap.size) (by have:=GL.out;omega),below_setRow S9.out.bel (g:=w.heap.size+2) (by omega) mf.ag⟩
 ·have e0:=hid (show m0=m from by rw[M0.out];unfold fr0;rw[<-P0.out,if_neg (by decide)])
  have eq0:=hid (show q=true from by rw[HQ.out];unfold frQ;rw[<-P0.out];decide)
  have e0:=e0.out
  subst e0
  have eq0:=eq0.out
  subst eq0
  clear M0 HQ
  go_enter Tryd.func34,Tryd.ntmps34
  go_wp2_with (first
   |(rw[HV.out];clear HV)
   |(refine wpList_load_mid rfl 27 (.tmp 19) rfl _ _ rfl (ints rp) _ (HRP.out _ _ S0.out.P) Tryd.underlying27 rfl HI8.out ?_))
  with_reducible refine(KV.out V S0.out.bel).mono ?_
  rintro e w1 ⟨rfl,hB⟩
  have S1:=hid (S0.out.below hB)
  clear hB S0 KV c0
  have SX1:=hid S1.out.lt
  go_wp2_with (first
   |(refine wpList_storeI rfl 27 (.tmp 7) (.tmp 22) rfl _ 27 Z8 now 8 rfl rfl (IB.new w1 27 Z8) size8 rfl NL.out ?_
     have BB:=below_stored w1 (.cells (agi Z8) 27) (agi now)
     obtain⟨V2,hV⟩: ∃V2,V2=(w1.alloc (.cells (agi Z8) 27)).setRow w1.heap.size (agi now):=⟨_,rfl⟩
     have S2:=hid (show Fb w V2 m0 ps from by rw[hV];exact S1.out.below BB)
     have N2:=hid (show IB V2 w1.heap.size 27 now from by rw[hV];exact IB.stored w1 27 Z8 now)
     have Z2:=hid (show w1.heap.size<V2.heap.size from Blk.lt N2.out)
     rw[z8_eq] at hV
     rw[<-hV]
     clear hV BB)
   |(refine wpList_load_mid rfl 27 (.tmp 24) rfl _ _ rfl (ints m0.r) _ (S2.out.A.R K0.out) Tryd.underlying27 rfl HI8'.out ?_;rw[show(ints m0.r).toArray=agi was from by rw[HW.out];rfl])
   |(refine wpList_storeI rfl 27 (.tmp 9) (.tmp 25) rfl _ 27 Z8 was 8 rfl rfl (IB.new V2 27 Z8) size8 rfl WL.out ?_
     have BB:=below_stored V2 (.cells (agi Z8) 27) (agi was)
     obtain⟨V3,hV⟩: ∃V3,V3=(V2.alloc (.cells (agi Z8) 27)).setRow V2.heap.size (agi was):=⟨_,rfl⟩
     have S3:=hid (show Fc w V3 m0 ps w1.heap.size V2.heap.size now was from by rw[hV];exact⟨S2.out.below BB,Blk.below' N2.out BB,IB.stored V2 27 Z8 was,by have:=SX1.out;omega,by have:=Z2.out;omega⟩)
     have c3:=S3.out.F.P.cell 0 (by rw[HL.out];omega)
     rw[<-P0.out] at c3
     have d3:=S3.out.F.A.csi K0.out
     have f3:=MB.frozen S3.out.F.A 101
     have S4:=hid (show Fc w (V3.setCell ⟨w.heap.size,101,none⟩ (.bool true)) m1 ps w1.heap.size V2.heap.size now was from by rw[M1.out];exact S3.out.setSi K0.out true)
     rw[z8_eq] at hV
     rw[<-hV]
     clear hV BB))
  obtain⟨V4,hV4⟩: ∃V4,V4=V3.setCell ⟨w.heap.size,101,none⟩ (.bool true):=⟨_,rfl⟩
  obtain⟨gN,hgN⟩: ∃gN,gN=w1.heap.size:=⟨_,rfl⟩
  obtain⟨gW,hgW⟩: ∃gW,gW=V2.heap.size:=⟨_,rfl⟩
  rw[<-hV4,<-hgN,<-hgW] at S4
  rw[<-hV4,<-hgN,<-hgW]
  clear hV4 hgN hgW c3 d3 f3 S3 N2 Z2 S2 S1 SX1 P0 M1
  go_loopw [6,30] (fun ov iv wr=> ∃(k:Nat) (A:Option Addr) (c n:Nat),k<=2/\iv= .int .i64 k/\ov= .slice A n c/\Hid (n=40*k)/\Hid (Own wr (gW+1) A c (frZ true was now ps m1 k))/\Hid (Fc w wr (frK true was now ps m1 k) ps gN gW now was)) (fun _ iv _=>2-(intOf iv).toNat)
  case atStart=>exact⟨0,none,0,0,by omega,rfl,rfl,hid rfl,hid Own.nil,S4⟩
  case round=>
   clear S4
   obtain⟨k,A,c,n,hk,rfl,rfl,HN,HO,HC⟩:=hrel
   by_cases hlt:k<2
   ·have KO:=hid (KK.out k (by omega))
    have GO:=hid (KG.out k (by omega))
    have KFk:=hid (KF.out k hlt)
    have FL:=hid (frA_len was now k)
    have Kn:=hid (KK.out (k+1) (by omega))
    have NM:=hid (show frK true was now ps m1 (k+1)=frP true (frA was now k) (frK true was now ps m1 k) (subL ps k) from rfl)
    have NZ:=hid (show frZ true was now ps m1 (k+1)=frZ true was now ps m1 k++frY true (frA was now k) (frK true was now ps m1 k) (subL ps k) from rfl)
    have YL:=hid (frY_len true (frA was now k) (frK true was now ps m1 k) (subL ps k))
    have LZ:=hid (show(frZ true was now ps m1 k).length=n from by rw[frZ_len,HN.out])
    have SI:=hid (show(frK true was now ps m1 k).si=true from by rw[frK_si];exact SI1.out)
    have UU:=KU.out k hlt
    have GA:=KA.out k hlt
    have h2:=frP_still (a:=frA was now k) GO.out UU GA
    have KS:=hid (fun W=>show Calls Tryd.prog 71 #[.agg (frK true was now ps m1 k).ag] W (NewM W (frN true (frK true was now ps m1 k) (subL ps k)) (frX true (frK true was now ps m1 k) (subL ps k)) (errOf (goodM (frK true was now ps m1 k)))) from by
     have h1:=silent_any (frK true was now ps m1 k) KO.out W
     rw[h2.1,h2.2.1] at h1
     exact h1)
    have OKM:=hid (frN_ok true KO.out UU)
    have XL:=hid (frX_len true (frK true was now ps m1 k) UU)
    have KP:=hid (fun W A2 c2 (h:Rs W W.heap.size A2 (frX true (frK true was now ps m1 k) (subL ps k)))=>show Calls Tryd.prog 39 #[.agg (frN true (frK true was now ps m1 k) (subL ps k)).ag,.agg (agi (frA was now k)),.slice A2 40 c2] W (PlayA W (frP true (frA was now k) (frK true was now ps m1 k) (subL ps k)) (frY true (frA was now k) (frK true was now ps m1 k) (subL ps k))) from by
     have h1:=play_any (frN true (frK true was now ps m1 k) (subL ps k)) OKM.out (frA was now k) _ A2 c2 40 W (frA_len _ _ _) h XL.out (by omega)
     rw[h2.2.2.1,h2.2.2.2] at h1
     exact h1)
    clear h2
    generalize frN true (frK true was now ps m1 k) (subL ps k)=mm at*
    generalize frX true (frK true was now ps m1 k) (subL ps k)=xs at*
    generalize errOf (goodM (frK true was now ps m1 k))=er at*
    rw[NM.out] at Kn
    generalize frP true (frA was now k) (frK true was now ps m1 k) (subL ps k)=mn at*
    generalize frY true (frA was now k) (frK true was now ps m1 k) (subL ps k)=y at*
    generalize frA was now k=a at*
    generalize frK true was now ps m1 k=mk at*
    generalize frZ true was now ps m1 k=zs at*
    generalize subL ps k=su at*
    clear KF KK KG KU KA UU GA GO
    go_wp2_with (first
     |(refine wpList_loadI rfl 27 (.tmp 9) rfl _ 27 was 8 _ rfl HC.out.W Tryd.underlying27 rfl size8 WL.out ?_)
     |(refine wpList_loadI rfl 27 (.tmp 7) rfl _ 27 now 8 _ rfl HC.out.N Tryd.underlying27 rfl size8 NL.out ?_))
    with_reducible refine(KFk.out _).mono ?_
    rintro e w5 ⟨rfl,hB⟩
    have C5:=hid (HC.out.below hB)
    have O5:=hid (HO.out.below hB)
    have SX5:=hid C5.out.glt
    clear hB HC HO KFk
    go_wp2_with (first
     |(refine wpList_storeI rfl 69 (.tmp 11) (.tmp 36) rfl _ 69 Z9 a 9 rfl rfl (IB.new w5 69 Z9) size9 rfl FL.out ?_
       have BB:=below_stored w5 (.cells (agi Z9) 69) (agi a)
       obtain⟨V6,hV⟩: ∃V6,V6=(w5.alloc (.cells (agi Z9) 69)).setRow w5.heap.size (agi a):=⟨_,rfl⟩
       have C6:=hid (show Fc w V6 mk ps gN gW now was from by rw[hV];exact C5.out.below BB)
       have A6:=hid (show IB V6 w5.heap.size 69 a from by rw[hV];exact IB.stored w5 69 Z9 a)
       have O6:=hid (show Own V6 (gW+1) A c zs from by rw[hV];exact O5.out.below BB)
       have d6:=C6.out.F.A.csi KO.out
       rw[SI.out] at d6
       rw[z9_eq] at hV
       rw[<-hV]
       clear hV BB)
     |(refine wpList_loadM rfl (.tmp 2) rfl _ mk rfl C6.out.F.A KO.out ?_))
    with_reducible refine(KS.out V6).mono ?_
    rintro e w7 ⟨A7,c7,rfl,hO,hB⟩
    have C7:=hid (C6.out.below hB)
    have F7:=hid (Blk.below' A6.out hB)
    have O7:=hid (O6.out.below hB)
    have X7:=hid hO
    have SX6:=hid C6.out.glt
    have SX8:=hid hB.size
    clear hO hB KS
    have C8:=hid (C7.out.setA (mm:=mm))
    have F8:=hid (show IB (w7.setRow w.heap.size mm.ag) w5.heap.size 69 a from Blk.rowFar F7.out (by have:=C7.out.l1;have:=C7.out.l2;have:=SX5.out;omega))
    have O8:=hid (O7.out.setRow (g:=w.heap.size) (by have:=C7.out.l1;have:=C7.out.l2;omega) mm.ag)
    have X8:=hid (X7.out.setRow (g:=w.heap.size) (by have:=C7.out.l1;have:=C7.out.l2;have:=SX6.out;omega) mm.ag).reads
    obtain⟨V8,hV8⟩: ∃V8,V8=w7.setRow w.heap.size mm.ag:=⟨_,rfl⟩
    rw[<-hV8] at C8 F8 O8 X8
    have HV8:=hid hV8
    clear hV8
    rw[XL.out]
    go_wp2_with (first
     |(refine wpList_storeM rfl (.tmp 2) (.tmp 42) rfl _ mk mm rfl rfl C7.out.F.A KO.out OKM.out ?_;rw[<-HV8.out];clear HV8)
     |(refine wpList_loadM rfl (.tmp 2) rfl _ mm rfl C8.out.F.A OKM.out ?_)
     |(refine wpList_loadI rfl 69 (.tmp 11) rfl _ 69 a 9 _ rfl F8.out Tryd.underlying69 rfl size9 FL.out ?_))
    with_reducible refine(KP.out V8 A7 c7 X8.out).mono ?_
    rintro e w9 ⟨A2,c2,rfl,hO,hB⟩
    have C9:=hid (C8.out.below hB)
    have O9:=hid (O8.out.below hB)
    have X9:=hid hO
    have SX9:=hid C8.out.glt
    clear hO hB KP C6 C7 C8 O6 O7 O8 X7 X8 F7 F8 A6 O5 C5 d6
    have C10:=hid (C9.out.setA (mm:=mn))
    have O10:=hid (O9.out.setRow (g:=w.heap.size) (by have:=C9.out.l1;have:=C9.out.l2;omega) mn.ag)
    have X10:=hid (X9.out.setRow (g:=w.heap.size) (by have:=C9.out.l1;have:=C9.out.l2;have:=SX9.out;omega) mn.ag).reads
    obtain⟨V10,hV10⟩: ∃V10,V10=w9.setRow w.heap.size mn.ag:=⟨_,rfl⟩
    rw[<-hV10] at C10 O10 X10
    have HV10:=hid hV10
    clear hV10
    rw[YL.out]
    go_wp2_with (first
     |(refine wpList_storeM rfl (.tmp 2) (.tmp 50) rfl _ mm mn rfl rfl C9.out.F.A OKM.out Kn.out ?_;rw[<-HV10.out];clear HV10)
     |(at_builtin;refine wpList_catN rfl (.tmp 62) (.tmp 63) rfl (gW+1) A c n zs rfl LZ.out O10.out V10.heap.size A2 c2 40 y rfl YL.out X10.out (by have:=HN.out;omega) (by have:=C10.out.glt;omega) ?_;intro A11 c11 w11 hO hG hA;have C11:=hid (C10.out.grown O10.out hG);have O11:=hid hO;clear hO hG hA))
    go_roundw
    case rel=>exact⟨k+1,A11,c11,n+40,by omega,by go_num,rfl,hid (by have:=HN.out;omega),hid (by rw[NZ.out];exact O11.out),hid (by rw[NM.out];exact C11.out)⟩
    case measure=>simp[intOf]<;>omega
   ·obtain rfl:k=2:=by omega
    obtain rfl:n=80:=HN.out
    obtain⟨mk,hmk⟩: ∃mk,mk=frK true was now ps m1 2:=⟨_,rfl⟩
    have OKS:=hid (show mk.ok from by rw[hmk];exact KK.out 2 (Nat.le_refl _))
    have FZ:=hid (FM.out mk hmk)
    have LO:=hid (frO_len m0 ps)
    rw[<-hmk] at HC
    rw[<-FO.out _ rfl] at HO
    clear hmk FO FM KK KG KF KU KA
    generalize frO m0 ps=yf at*
    generalize frM m0 ps=mf at*
    have OKF:=hid (show({mk with r:=now,er:=0}:Mm).ok from⟨NL.out,OKS.out.p,OKS.out.e⟩)
    have S8:=hid (HC.out.F.setRf OKS.out now NL.out)
    have TH:=hid (show wr.there w.heap.size 0 (agi now).size from by rw[agi_size,NL.out];exact HC.out.F.A.thereR OKS.out)
    have O8:=hid (Own.setCs (g:=w.heap.size) (by have:=HC.out.l1;have:=HC.out.l2;omega) (ints now) 0 _ HO.out)
    have GL:=hid (show w.heap.size+3<gW+1 from by have:=HC.out.l1;have:=HC.out.l2;omega)
    obtain⟨V8,hV8⟩: ∃V8,V8=wr.setCells w.heap.size 0 (ints now):=⟨_,rfl⟩
    rw[<-hV8] at S8 O8
    have HV8:=hid hV8
    have K8:=hid (show({mk with r:=now}:Mm).ok from⟨NL.out,OKS.out.p,OKS.out.e⟩)
    have d8:=S8.out.A.cer K8.out
    have f8:=MB.frozen S8.out.A 99
    have S9:=hid (show Fb w (V8.setCell ⟨w.heap.size,99,none⟩ (.int .i64 0)) mf ps from by rw[FZ.out];exact S8.out.setEr K8.out 0)
    have O9:=hid (Own.setC (g:=w.heap.size) O8.out (by have:=GL.out;omega) 99 (.int .i64 0))
    obtain⟨V9,hV9⟩: ∃V9,V9=V8.setCell ⟨w.heap.size,99,none⟩ (.int .i64 0):=⟨_,rfl⟩
    rw[<-hV9] at S9 O9
    have HV9:=hid hV9.symm
    rw[<-FZ.out] at OKF
    clear hV8 hV9
    go_wp2_with (first
     |(refine wpList_loadI rfl 27 (.tmp 7) rfl _ 27 now 8 _ rfl HC.out.N Tryd.underlying27 rfl size8 NL.out ?_)
     |(refine wpList_store_mid rfl 27 (.tmp 67) (.tmp 66) rfl w.heap.size 0 (agi now) rfl rfl TH.out SZ.out (agi_one _) ?_;rw[show(agi now).toList=ints now from rfl,<-HV8.out])
     |(rw[HV9.out];clear HV9 d8 f8)
     |(refine wpList_loadM rfl (.tmp 2) rfl _ mf rfl S9.out.A OKF.out ?_)
     |(refine wpList_storeM rfl (.tmp 4) (.tmp 69) rfl _ zeroM mf rfl rfl S9.out.R zeroM_ok OKF.out ?_))
    refine bodyPost_ret (v:=_) (hR _ _ _ mf rfl (MB.setRow S9.out.R mf) OKF.out) rfl ?_
    exact⟨A,c,by rw[LO.out];rfl,(O9.out.setRow (g:=w.heap.size+2) (by have:=GL.out;omega) mf.ag).more (base':=w.heap.size) (by have:=GL.out;omega),below_setRow S9.out.bel (g:=w.heap.size+2) (by omega) mf.ag⟩
end Go.Proofs.YthoiikkjjaldnaaDoor
