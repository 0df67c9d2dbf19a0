/- Texts that the law rests on, laid together: DkY, DkT, DkU, TopL. -/
import Derived.Test.YthoiikkjjaldnaaDoorZ93712e
import Derived.Test.YthoiikkjjaldnaaDoorZ7efb1b
import Derived.Test.YthoiikkjjaldnaaDoorZ008365
import Derived.Test.YthoiikkjjaldnaaDoorZbfb2ae
import Derived.Test.YthoiikkjjaldnaaDoorZ9e0fbb
set_option maxHeartbeats 4000000
namespace Go.Proofs.YthoiikkjjaldnaaDoor
set_option linter.unusedVariables false
set_option linter.unusedSimpArgs false
set_option maxRecDepth 100000
open Go.RowKit
theorem deskDo_encbad (gK gM n:Nat) (D:DataW Unit) (g:Nat) (e:En) (m:Mm) (q:Cq) (xs:List Int) (w:World) (T1:TabA w 2 rootsL) (T2:TabA w 0 gainsL) (T3:TabA w 1 widthL)
 (hD:Dd w gK gM n D) (hL:LB w g e m) (ke:e.ok) (km:m.ok) (hv: -9223372036854775808<=q.v/\q.v<=9223372036854775807)
 (hhas:Maps.has D (keyL q.v)=true) (hat:D.atKey (keyL q.v) .nil= .lit (.int .i64 (g:Nat))) (hk:q.k=2) (hgl:g<w.heap.size) (hgd:gK<w.heap.size/\gM<w.heap.size)
 (hr:Rs w w.heap.size q.A xs) (hn:xs.length=q.n) (hx:q.n<=17592186044000) (h0:encErr e xs≠0) (k2:(enE e xs q.r).ok):
 Calls Tryd.prog 18 #[.pointer (some ⟨gK,0,none⟩),.agg #[.int .i64 q.k,.int .i64 q.v,.bool q.r,.slice q.A q.n q.c,.slice q.A2 q.n2 q.c2]] w (fun x w'=>x= .returned (.agg (ansC (encErr e xs) q.v none 0 0 none 0 0))/\Dd w' gK gM n D/\LB w' g e m/\Below w.heap.size w w'):=by
 have K2:=hid k2
 have HGL:=hid hgl
 have HGD:=hid hgd
 have KEn:=hid (fun W (h:Dj w W gK gM n D g e m q)=>show Calls Tryd.prog 10 #[.agg e.cs.toArray,.slice q.A q.n q.c,.bool q.r] W (fun x w'=> ∃A3 c3 A4 c4,x= .returned (.tuple #[.agg (enE e xs q.r).ag,.slice A3 (enBs e xs q.r).length c3,.slice A4 (enY e xs q.r).length c4,.int .i64 (encErr e xs)])/\OwnB w' W.heap.size A3 c3 (enBs e xs q.r)/\Own w' W.heap.size A4 c4 (enY e xs q.r)/\Below W.heap.size W w') from by
  have h1:=encode_any e ke q.A q.c q.n xs q.r W (T1.below h.bel) (T2.below h.bel) (T3.below h.bel) ((hr.below h.bel).more h.bel.size) hn hx
  unfold EncOut at h1
  exact h1)
 clear k2 T1 T2 T3 hr hn hx
 have hne:=h0
 clear h0
 obtain⟨s2,hs2⟩: ∃s2,s2=enE e xs q.r:=⟨_,rfl⟩
 obtain⟨bs,hbs⟩: ∃bs,bs=enBs e xs q.r:=⟨_,rfl⟩
 obtain⟨ys,hys⟩: ∃ys,ys=enY e xs q.r:=⟨_,rfl⟩
 rw[<-hs2] at K2
 rw[<-hs2,<-hbs,<-hys] at KEn
 clear hs2 hbs hys
 obtain⟨lb,hlb⟩: ∃lb,lb=bs.length:=⟨_,rfl⟩
 obtain⟨ly,hly⟩: ∃ly,ly=ys.length:=⟨_,rfl⟩
 rw[<-hlb,<-hly] at KEn
 clear hlb hly
 obtain⟨er,her⟩: ∃er,er=encErr e xs:=⟨_,rfl⟩
 rw[<-her] at KEn hne|-
 have HER:=hid hne
 clear her hne
 have hR:=results_any1 (fn:=Tryd.f18) (p:=4) (ty:=58) rfl
 have S0:=hid (Dj.start w q hD hL)
 obtain⟨V0,hV0⟩: ∃V0,V0=(((w.alloc (.cells #[.int .i64 q.k,.int .i64 q.v,.bool q.r,.slice q.A q.n q.c,.slice q.A2 q.n2 q.c2] 56)).alloc (.cells #[.int .i64 0,.int .i64 0,.slice none 0 0,.slice none 0 0] 58)).alloc (.cells #[.int .i64 0,.int .i64 q.v,.slice none 0 0,.slice none 0 0] 58)):=⟨_,rfl⟩
 rw[<-hV0] at S0
 have HV0:=hV0.symm
 have KE:=hid ke
 have KM:=hid km
 have hrun:=(S0.out.D.below ((Below.refl _ _).drew)).M.hit hv hhas hat
 have k1:=S0.out.c0
 have k2:=S0.out.c1
 have k3:V0.cell? ⟨gK,0,none⟩=some (.map (some gM)):=Blk.cell S0.out.D.K 0
 clear hV0 hD hL ke km
 rw[hk] at HV0 k1|-
 have HVx:=hid HV0
 clear HV0
 go_enter Tryd.func18,Tryd.ntmps18
 go_upto_region 8 with fail
 rw[HVx.out]
 go_region
 have S1:=hid (S0.out.below ((Below.refl _ _).drew))
 obtain⟨V1,hV1⟩: ∃V1,V1=World.drew V0:=⟨_,rfl⟩
 rw[<-hV1] at S1|-
 clear k1 k2 k3 hrun hV1 S0
 have k1:=S1.out.c0
 rw[hk] at k1
 go_upto_region 17 with fail
 go_cut [8,9,10,11] (fun s7 s8 s9 s10 wx=> ∃(gx:Nat) (A3:Option Addr) (c3:Nat) (A4:Option Addr) (c4:Nat),s7= .pointer (some ⟨gx,0,none⟩)/\s8= .slice A3 lb c3/\s9= .slice A4 ly c4/\s10= .int .i64 er/\Hid (w.heap.size+3<=gx)/\Hid (Dj w wx gK gM n D g e m q)/\Hid (EB wx gx s2)/\Hid (OwnB wx (w.heap.size+3) A3 c3 bs)/\Hid (Own wx (w.heap.size+3) A4 c4 ys))
 case first=>
  have S0:=S1
  refine wp_region_held (S:=fun W=>Dj w W gK gM n D g e m q) (by kernel_rfl) ?_
  have L1:=hid (Dj.below S0.out ((Below.refl _ _).drew))
  change wpAnyH _ _ _ _ _ _ _ _ (World.drew _)
  obtain⟨W1,hW1⟩: ∃W1,W1=World.drew V1:=⟨_,rfl⟩
  rw[<-hW1] at L1|-
  clear hW1
  refine wpAnyH_take (i:=0) (v:= .pointer (some ⟨g,0,none⟩)) rfl (by kernel_rfl) (by kernel_rfl) (by kernel_rfl) (fun _ _ _ h=>h) (.inl ⟨by rfl,fun W hW=>by go_simp⟩) L1.out ?_
  refine wpAnyH_take (i:=1) (v:= .pointer (some ⟨g,0,none⟩)) rfl (by kernel_rfl) (by kernel_rfl) (by kernel_rfl) (fun _ _ _ h=>h) (.inl ⟨by rfl,fun W hW=>by go_simp⟩) L1.out ?_
  refine wpAnyH_take (i:=2) (v:= .pointer (some ⟨g,0,none⟩)) rfl (by kernel_rfl) (by kernel_rfl) (by kernel_rfl) (fun _ _ _ h=>h) (.inl ⟨by rfl,fun W hW=>by go_simp⟩) L1.out ?_
  refine wpAnyH_take (i:=3) (v:= .agg e.cs.toArray) rfl (by kernel_rfl) (by kernel_rfl) (by kernel_rfl) (fun _ _ _ h=>h) (yieldsIf_load_mid (by rfl) 32 (.tmp 63) rfl g 0 rfl e.cs _ (fun W hW=>LB.E hW.L) Tryd.underlying32 rfl (by rw[sizeE,e.len KE.out])) L1.out ?_
  refine wpAnyH_take (i:=4) (v:= .pointer (some ⟨w.heap.size,3,none⟩)) rfl (by kernel_rfl) (by kernel_rfl) (by kernel_rfl) (fun _ _ _ h=>h) (.inl ⟨by rfl,fun W hW=>by go_simp⟩) L1.out ?_
  refine wpAnyH_take (i:=5) (v:= .slice q.A q.n q.c) rfl (by kernel_rfl) (by kernel_rfl) (by kernel_rfl) (fun _ _ _ h=>h) (.inl ⟨by rfl,fun W hW=>by have h:=hW.c3;go_simp⟩) L1.out ?_
  refine wpAnyH_take (i:=6) (v:= .pointer (some ⟨w.heap.size,2,none⟩)) rfl (by kernel_rfl) (by kernel_rfl) (by kernel_rfl) (fun _ _ _ h=>h) (.inl ⟨by rfl,fun W hW=>by go_simp⟩) L1.out ?_
  refine wpAnyH_take (i:=7) (v:= .bool q.r) rfl (by kernel_rfl) (by kernel_rfl) (by kernel_rfl) (fun _ _ _ h=>h) (.inl ⟨by rfl,fun W hW=>by have h:=hW.c2;go_simp⟩) L1.out ?_
  refine wpAnyH_ready (rs:=[8,14]) (by kernel_rfl) (by simp) (AllReadyH.cons rfl (fun K hK=>?_) (AllReadyH.cons rfl (fun K hK=>?_) AllReadyH.nil))
  ·
   go_simp
   with_reducible refine(KEn.out W1 L1.out).mono ?_
   rintro e W2 ⟨A3,c3,A4,c4,rfl,hP,hR,hB⟩
   have HB:=hid (show w.heap.size+3<=W1.heap.size from L1.out.lt)
   have L2:=hid (Dj.below L1.out hB)
   have Q2:=hid hB
   have P2:=hid hP
   clear hP
   have R2:=hid hR
   clear hR hB
   go_simp
   refine hK.out _ _ L2.out (fun _=>?_)
   clear hK K
   refine wpAnyH_take (i:=9) (v:= .tuple #[.agg s2.ag,.slice A3 lb c3,.slice A4 ly c4,.int .i64 er]) rfl (by kernel_rfl) (by kernel_rfl) (by kernel_rfl) (fun _ _ _ h=>h) (.inl ⟨by rfl,fun W hW=>by(first|rfl|go_simp)⟩) L2.out ?_
   refine wpAnyH_take (i:=10) (v:= .agg s2.ag) rfl (by kernel_rfl) (by kernel_rfl) (by kernel_rfl) (fun _ _ _ h=>h) (.inl ⟨by rfl,fun W hW=>by(first|rfl|go_simp)⟩) L2.out ?_
   refine wpAnyH_take (i:=11) (v:= .slice A3 lb c3) rfl (by kernel_rfl) (by kernel_rfl) (by kernel_rfl) (fun _ _ _ h=>h) (.inl ⟨by rfl,fun W hW=>by(first|rfl|go_simp)⟩) L2.out ?_
   refine wpAnyH_take (i:=12) (v:= .slice A4 ly c4) rfl (by kernel_rfl) (by kernel_rfl) (by kernel_rfl) (fun _ _ _ h=>h) (.inl ⟨by rfl,fun W hW=>by(first|rfl|go_simp)⟩) L2.out ?_
   refine wpAnyH_take (i:=13) (v:= .int .i64 er) rfl (by kernel_rfl) (by kernel_rfl) (by kernel_rfl) (fun _ _ _ h=>h) (.inl ⟨by rfl,fun W hW=>by(first|rfl|go_simp)⟩) L2.out ?_
   refine wpAnyH_ready (rs:=[14]) (by kernel_rfl) (by simp) (AllReadyH.cons rfl (fun K hK=>?_) AllReadyH.nil)
   go_simp
   have L3:=hid (Dj.below L2.out ((Below.refl _ _).alloc (Nat.le_refl _) (.cells Tryd.zeroCells32 32)))
   have Z3:=hid (newzeroE W2)
   obtain⟨W3,hW3⟩: ∃W3,W3=W2.alloc (.cells Tryd.zeroCells32 32):=⟨_,rfl⟩
   have Q3:=hid (show Below W2.heap.size W2 W3 from by rw[hW3];exact(Below.refl _ _).alloc (Nat.le_refl _) _)
   rw[<-hW3] at L3 Z3|-
   clear hW3
   obtain⟨gx,hgx⟩: ∃gx,gx=W2.heap.size:=⟨_,rfl⟩
   have GX:=hid (show w.heap.size+3<=gx from by rw[hgx];exact L2.out.lt)
   have GE:=hid hgx
   rw[<-hgx] at Z3|-
   clear hgx
   have P3:=hid (P2.out.below Q3.out)
   have R3:=hid (R2.out.below Q3.out)
   refine hK.out _ _ L3.out (fun _=>?_)
   clear hK K
   refine wpAnyH_ready (rs:=[15]) (by kernel_rfl) (by simp) (AllReadyH.cons rfl (fun K hK=>?_) AllReadyH.nil)
   rw[if_pos (by rfl)]
   simp only[Act.put,List.setIfInBounds_toArray,List.set_cons_zero,List.set_cons_succ,List.getElem_toArray,List.getElem_cons_succ,List.getElem_cons_zero]
   refine wp_store_mid 32 (.tmp 8) (.tmp 70) rfl gx 0 s2.ag rfl rfl (by rw[En.size _ K2.out];exact EB.there Z3.out zeroEn_ok) (by rw[En.size _ K2.out];exact sizeE) (En.one _) ?_
   have LF:=hid (Dj.far L3.out HGL.out HGD.out GX.out (s2.ag.toList) 0)
   have EF:=hid (EB.setAll Z3.out zeroEn_ok K2.out)
   have PF:=hid (P2.out.below (below_sc (b:=gx) (by rw[GE.out];exact Nat.le_refl _) s2.ag.toList 0 _ Q3.out))
   have RF:=hid (R2.out.below (below_sc (b:=gx) (by rw[GE.out];exact Nat.le_refl _) s2.ag.toList 0 _ Q3.out))
   obtain⟨WF,hWF⟩: ∃WF,WF=W3.setCells gx 0 s2.ag.toList:=⟨_,rfl⟩
   have EF:=hid (show EB (W3.setCells gx 0 s2.ag.toList) gx s2 from EF.out)
   rw[<-hWF] at LF EF PF RF|-
   clear hWF
   refine hK.out _ _ LF.out (fun _=>?_)
   clear hK K
   refine wpAnyH_take (i:=16) (v:= .slice A3 lb c3) rfl (by kernel_rfl) (by kernel_rfl) (by kernel_rfl) (fun _ _ _ h=>h) (.inl ⟨by rfl,fun W hW=>by(first|rfl|go_simp)⟩) LF.out ?_
   refine wpAnyH_take (i:=17) (v:= .slice A4 ly c4) rfl (by kernel_rfl) (by kernel_rfl) (by kernel_rfl) (fun _ _ _ h=>h) (.inl ⟨by rfl,fun W hW=>by(first|rfl|go_simp)⟩) LF.out ?_
   refine wpAnyH_take (i:=18) (v:= .int .i64 er) rfl (by kernel_rfl) (by kernel_rfl) (by kernel_rfl) (fun _ _ _ h=>h) (.inl ⟨by rfl,fun W hW=>by(first|rfl|go_simp)⟩) LF.out ?_
   refine wpAnyH_done (by kernel_rfl) ?_ _
   go_wp2_with fail
   go_meet
   exact⟨gx,A3,c3,A4,c4,rfl,rfl,rfl,rfl,GX,LF,EF,hid (PF.out.more HB.out),hid (RF.out.more HB.out)⟩
  ·
   go_simp
   have L2:=hid (Dj.below L1.out ((Below.refl _ _).alloc (Nat.le_refl _) (.cells Tryd.zeroCells32 32)))
   have Z2:=hid (newzeroE W1)
   obtain⟨W2,hW2⟩: ∃W2,W2=W1.alloc (.cells Tryd.zeroCells32 32):=⟨_,rfl⟩
   have Q2:=hid (show Below W1.heap.size W1 W2 from by rw[hW2];exact(Below.refl _ _).alloc (Nat.le_refl _) _)
   rw[<-hW2] at L2 Z2|-
   clear hW2
   obtain⟨gx,hgx⟩: ∃gx,gx=W1.heap.size:=⟨_,rfl⟩
   have GX:=hid (show w.heap.size+3<=gx from by rw[hgx];exact L1.out.lt)
   have GE:=hid hgx
   rw[<-hgx] at Z2|-
   clear hgx
   refine hK.out _ _ L2.out (fun _=>?_)
   clear hK K
   refine wpAnyH_ready (rs:=[8]) (by kernel_rfl) (by simp) (AllReadyH.cons rfl (fun K hK=>?_) AllReadyH.nil)
   go_simp
   with_reducible refine(KEn.out W2 L2.out).mono ?_
   rintro e W3 ⟨A3,c3,A4,c4,rfl,hP,hR,hB⟩
   have HB:=hid (show w.heap.size+3<=W2.heap.size from L2.out.lt)
   have GB:=hid (show gx<W2.heap.size from Blk.lt Z2.out)
   have L3:=hid (Dj.below L2.out hB)
   have Q3:=hid hB
   have Z3:=hid (Blk.below' Z2.out Q3.out)
   have P3:=hid hP
   clear hP
   have R3:=hid hR
   clear hR hB
   go_simp
   refine hK.out _ _ L3.out (fun _=>?_)
   clear hK K
   refine wpAnyH_take (i:=9) (v:= .tuple #[.agg s2.ag,.slice A3 lb c3,.slice A4 ly c4,.int .i64 er]) rfl (by kernel_rfl) (by kernel_rfl) (by kernel_rfl) (fun _ _ _ h=>h) (.inl ⟨by rfl,fun W hW=>by(first|rfl|go_simp)⟩) L3.out ?_
   refine wpAnyH_take (i:=10) (v:= .agg s2.ag) rfl (by kernel_rfl) (by kernel_rfl) (by kernel_rfl) (fun _ _ _ h=>h) (.inl ⟨by rfl,fun W hW=>by(first|rfl|go_simp)⟩) L3.out ?_
   refine wpAnyH_take (i:=11) (v:= .slice A3 lb c3) rfl (by kernel_rfl) (by kernel_rfl) (by kernel_rfl) (fun _ _ _ h=>h) (.inl ⟨by rfl,fun W hW=>by(first|rfl|go_simp)⟩) L3.out ?_
   refine wpAnyH_take (i:=12) (v:= .slice A4 ly c4) rfl (by kernel_rfl) (by kernel_rfl) (by kernel_rfl) (fun _ _ _ h=>h) (.inl ⟨by rfl,fun W hW=>by(first|rfl|go_simp)⟩) L3.out ?_
   refine wpAnyH_take (i:=13) (v:= .int .i64 er) rfl (by kernel_rfl) (by kernel_rfl) (by kernel_rfl) (fun _ _ _ h=>h) (.inl ⟨by rfl,fun W hW=>by(first|rfl|go_simp)⟩) L3.out ?_
   refine wpAnyH_ready (rs:=[15]) (by kernel_rfl) (by simp) (AllReadyH.cons rfl (fun K hK=>?_) AllReadyH.nil)
   rw[if_pos (by rfl)]
   simp only[Act.put,List.setIfInBounds_toArray,List.set_cons_zero,List.set_cons_succ,List.getElem_toArray,List.getElem_cons_succ,List.getElem_cons_zero]
   refine wp_store_mid 32 (.tmp 8) (.tmp 70) rfl gx 0 s2.ag rfl rfl (by rw[En.size _ K2.out];exact EB.there Z3.out zeroEn_ok) (by rw[En.size _ K2.out];exact sizeE) (En.one _) ?_
   have LF:=hid (Dj.far L3.out HGL.out HGD.out GX.out (s2.ag.toList) 0)
   have EF:=hid (EB.setAll Z3.out zeroEn_ok K2.out)
   have PF:=hid (ownB_setCs (g:=gx) GB.out s2.ag.toList 0 _ P3.out)
   have RF:=hid (Own.setCs (g:=gx) GB.out s2.ag.toList 0 _ R3.out)
   obtain⟨WF,hWF⟩: ∃WF,WF=W3.setCells gx 0 s2.ag.toList:=⟨_,rfl⟩
   have EF:=hid (show EB (W3.setCells gx 0 s2.ag.toList) gx s2 from EF.out)
   rw[<-hWF] at LF EF PF RF|-
   clear hWF
   refine hK.out _ _ LF.out (fun _=>?_)
   clear hK K
   refine wpAnyH_take (i:=16) (v:= .slice A3 lb c3) rfl (by kernel_rfl) (by kernel_rfl) (by kernel_rfl) (fun _ _ _ h=>h) (.inl ⟨by rfl,fun W hW=>by(first|rfl|go_simp)⟩) LF.out ?_
   refine wpAnyH_take (i:=17) (v:= .slice A4 ly c4) rfl (by kernel_rfl) (by kernel_rfl) (by kernel_rfl) (fun _ _ _ h=>h) (.inl ⟨by rfl,fun W hW=>by(first|rfl|go_simp)⟩) LF.out ?_
   refine wpAnyH_take (i:=18) (v:= .int .i64 er) rfl (by kernel_rfl) (by kernel_rfl) (by kernel_rfl) (fun _ _ _ h=>h) (.inl ⟨by rfl,fun W hW=>by(first|rfl|go_simp)⟩) LF.out ?_
   refine wpAnyH_done (by kernel_rfl) ?_ _
   go_wp2_with fail
   go_meet
   exact⟨gx,A3,c3,A4,c4,rfl,rfl,rfl,rfl,GX,LF,EF,hid (PF.out.more HB.out),hid (RF.out.more HB.out)⟩
 case rest=>
  obtain⟨gx,A3,c3,A4,c4,rfl,rfl,rfl,rfl,GX,LF,EF,PF,RF⟩:=hcut
  have Z0:=hid (LF.out.z HGL.out HGD.out)
  have Z1:=hid (Z0.out.ans 0 (.int .i64 er))
  have B1:=hid (LF.out.bel.setCell (p:=⟨w.heap.size+1+1,0,none⟩) (by show w.heap.size<=w.heap.size+1+1;omega) (.int .i64 er))
  obtain⟨VA,hVA⟩: ∃VA,VA=wc.setCell ⟨w.heap.size+1+1,0,none⟩ (.int .i64 er):=⟨_,rfl⟩
  rw[<-hVA] at Z1 B1
  have HVA:=hid hVA.symm
  have T4:=hid (show Blk VA (w.heap.size+1+1) 58 (ansC er q.v none 0 0 none 0 0) from Z1.out.T)
  have t0:=Blk.cell Z0.out.T 0
  have f0:=Blk.frozen Z0.out.T 0
  have ne0:(er==0)=false:=by have:=HER.out;simpa using this
  have ne1: ¬er=0:=HER.out
  clear hVA k1 KEn S1
  go_wp2_with (first
   |(rw[HVA.out];clear HVA t0 f0)
   |(refine wpList_loadC rfl 58 (.tmp 5) rfl _ 58 _ _ rfl T4.out Tryd.underlying58 rfl sizeAns ?_)
   |(refine wpList_storeC rfl 58 (.tmp 4) (.tmp 133) rfl _ 58 _ (ansC er q.v none 0 0 none 0 0) rfl rfl Z1.out.R sizeAns rfl (one_ans _ _ _ _ _ _ _ _) ?_))
  refine bodyPost_ret (v:=_) (hR _ _ _ _ _ rfl (Blk.setRow_ Z1.out.R _) Tryd.underlying58 rfl sizeAns) rfl ?_
  exact⟨rfl,Z1.out.D.row (by have:=HGD.out;omega) (by have:=HGD.out;omega) _,Blk.rowFar Z1.out.L (by have:=HGL.out;omega),below_setRow B1.out (by omega) _⟩
theorem deskDo_decbad (gK gM n:Nat) (D:DataW Unit) (g:Nat) (e:En) (m:Mm) (q:Cq) (xs:List Int) (w:World) (T1:TabA w 2 rootsL) (T2:TabA w 0 gainsL) (T3:TabA w 1 widthL)
 (hD:Dd w gK gM n D) (hL:LB w g e m) (ke:e.ok) (km:m.ok) (hv: -9223372036854775808<=q.v/\q.v<=9223372036854775807)
 (hhas:Maps.has D (keyL q.v)=true) (hat:D.atKey (keyL q.v) .nil= .lit (.int .i64 (g:Nat))) (hk:q.k=3) (hgl:g<w.heap.size) (hgd:gK<w.heap.size/\gM<w.heap.size)
 (hr:Rb w w.heap.size q.A2 xs) (hn:xs.length=q.n2) (hc:q.n2<=q.c2) (hx:Byts xs) (h0:deE m xs≠0):
 Calls Tryd.prog 18 #[.pointer (some ⟨gK,0,none⟩),.agg #[.int .i64 q.k,.int .i64 q.v,.bool q.r,.slice q.A q.n q.c,.slice q.A2 q.n2 q.c2]] w (fun x w'=>x= .returned (.agg (ansC (deE m xs) q.v none 0 0 none 0 0))/\Dd w' gK gM n D/\LB w' g e m/\Below w.heap.size w w'):=by
 have K2:=hid (deM_ok km xs)
 have HGL:=hid hgl
 have HGD:=hid hgd
 have KEn:=hid (fun W (h:Dj w W gK gM n D g e m q)=>show Calls Tryd.prog 12 #[.agg m.cs.toArray,.slice q.A2 q.n2 q.c2] W (fun x w'=> ∃A4 c4,x= .returned (.tuple #[.agg (deM m xs).ag,.slice A4 (deY m xs).length c4,.int .i64 (deE m xs)])/\Own w' W.heap.size A4 c4 (deY m xs)/\Below W.heap.size W w') from by
  have h1:=decode_any m km q.A2 q.c2 q.n2 xs W (T1.below h.bel) (T2.below h.bel) (T3.below h.bel) ((hr.below h.bel).more h.bel.size) hn hc hx
  unfold NewM at h1
  exact h1)
 clear T1 T2 T3 hr hn hc hx
 have hne:=h0
 clear h0
 obtain⟨m2,hm2⟩: ∃m2,m2=deM m xs:=⟨_,rfl⟩
 obtain⟨ys,hys⟩: ∃ys,ys=deY m xs:=⟨_,rfl⟩
 rw[<-hm2] at K2
 rw[<-hm2,<-hys] at KEn
 clear hm2 hys
 obtain⟨ly,hly⟩: ∃ly,ly=ys.length:=⟨_,rfl⟩
 rw[<-hly] at KEn
 clear hly
 obtain⟨er,her⟩: ∃er,er=deE m xs:=⟨_,rfl⟩
 rw[<-her] at KEn hne|-
 have HER:=hid hne
 clear her hne
 have hR:=results_any1 (fn:=Tryd.f18) (p:=4) (ty:=58) rfl
 have S0:=hid (Dj.start w q hD hL)
 obtain⟨V0,hV0⟩: ∃V0,V0=(((w.alloc (.cells #[.int .i64 q.k,.int .i64 q.v,.bool q.r,.slice q.A q.n q.c,.slice q.A2 q.n2 q.c2] 56)).alloc (.cells #[.int .i64 0,.int .i64 0,.slice none 0 0,.slice none 0 0] 58)).alloc (.cells #[.int .i64 0,.int .i64 q.v,.slice none 0 0,.slice none 0 0] 58)):=⟨_,rfl⟩
 rw[<-hV0] at S0
 have HV0:=hV0.symm
 have KE:=hid ke
 have KM:=hid km
 have hrun:=(S0.out.D.below ((Below.refl _ _).drew)).M.hit hv hhas hat
 have k1:=S0.out.c0
 have k2:=S0.out.c1
 have k3:V0.cell? ⟨gK,0,none⟩=some (.map (some gM)):=Blk.cell S0.out.D.K 0
 clear hV0 hD hL ke km
 rw[hk] at HV0 k1|-
 have HVx:=hid HV0
 clear HV0
 go_enter Tryd.func18,Tryd.ntmps18
 go_upto_region 8 with fail
 rw[HVx.out]
 go_region
 have S1:=hid (S0.out.below ((Below.refl _ _).drew))
 obtain⟨V1,hV1⟩: ∃V1,V1=World.drew V0:=⟨_,rfl⟩
 rw[<-hV1] at S1|-
 clear k1 k2 k3 hrun hV1 S0
 have k1:=S1.out.c0
 rw[hk] at k1
 go_upto_region 22 with fail
 go_cut [12,13,14] (fun s7 s9 s10 wx=> ∃(gx:Nat) (A4:Option Addr) (c4:Nat),s7= .pointer (some ⟨gx,0,none⟩)/\s9= .slice A4 ly c4/\s10= .int .i64 er/\Hid (w.heap.size+3<=gx)/\Hid (Dj w wx gK gM n D g e m q)/\Hid (MB wx gx m2)/\Hid (Own wx (w.heap.size+3) A4 c4 ys))
 case first=>
  have S0:=S1
  refine wp_region_held (S:=fun W=>Dj w W gK gM n D g e m q) (by kernel_rfl) ?_
  have L1:=hid (Dj.below S0.out ((Below.refl _ _).drew))
  change wpAnyH _ _ _ _ _ _ _ _ (World.drew _)
  obtain⟨W1,hW1⟩: ∃W1,W1=World.drew V1:=⟨_,rfl⟩
  rw[<-hW1] at L1|-
  clear hW1
  refine wpAnyH_take (i:=0) (v:= .pointer (some ⟨g,0,none⟩)) rfl (by kernel_rfl) (by kernel_rfl) (by kernel_rfl) (fun _ _ _ h=>h) (.inl ⟨by rfl,fun W hW=>by go_simp⟩) L1.out ?_
  refine wpAnyH_take (i:=1) (v:= .pointer (some ⟨g,0,none⟩)) rfl (by kernel_rfl) (by kernel_rfl) (by kernel_rfl) (fun _ _ _ h=>h) (.inl ⟨by rfl,fun W hW=>by go_simp⟩) L1.out ?_
  refine wpAnyH_take (i:=2) (v:= .pointer (some ⟨g,226,none⟩)) rfl (by kernel_rfl) (by kernel_rfl) (by kernel_rfl) (fun _ _ _ h=>h) (.inl ⟨by rfl,fun W hW=>by go_simp⟩) L1.out ?_
  refine wpAnyH_take (i:=3) (v:= .agg m.cs.toArray) rfl (by kernel_rfl) (by kernel_rfl) (by kernel_rfl) (fun _ _ _ h=>h) (yieldsIf_load_mid (by rfl) 30 (.tmp 91) rfl g 226 rfl m.cs _ (fun W hW=>LB.M hW.L KE.out) Tryd.underlying30 rfl (by rw[sizeM,m.len KM.out])) L1.out ?_
  refine wpAnyH_take (i:=4) (v:= .pointer (some ⟨w.heap.size,4,none⟩)) rfl (by kernel_rfl) (by kernel_rfl) (by kernel_rfl) (fun _ _ _ h=>h) (.inl ⟨by rfl,fun W hW=>by go_simp⟩) L1.out ?_
  refine wpAnyH_take (i:=5) (v:= .slice q.A2 q.n2 q.c2) rfl (by kernel_rfl) (by kernel_rfl) (by kernel_rfl) (fun _ _ _ h=>h) (.inl ⟨by rfl,fun W hW=>by have h:=hW.c4;go_simp⟩) L1.out ?_
  refine wpAnyH_ready (rs:=[6,11]) (by kernel_rfl) (by simp) (AllReadyH.cons rfl (fun K hK=>?_) (AllReadyH.cons rfl (fun K hK=>?_) AllReadyH.nil))
  ·
   go_simp
   with_reducible refine(KEn.out W1 L1.out).mono ?_
   rintro e W2 ⟨A4,c4,rfl,hR,hB⟩
   have HB:=hid (show w.heap.size+3<=W1.heap.size from L1.out.lt)
   have L2:=hid (Dj.below L1.out hB)
   have Q2:=hid hB
   have R2:=hid hR
   clear hR hB
   go_simp
   refine hK.out _ _ L2.out (fun _=>?_)
   clear hK K
   refine wpAnyH_take (i:=7) (v:= .tuple #[.agg m2.ag,.slice A4 ly c4,.int .i64 er]) rfl (by kernel_rfl) (by kernel_rfl) (by kernel_rfl) (fun _ _ _ h=>h) (.inl ⟨by rfl,fun W hW=>by(first|rfl|go_simp)⟩) L2.out ?_
   refine wpAnyH_take (i:=8) (v:= .agg m2.ag) rfl (by kernel_rfl) (by kernel_rfl) (by kernel_rfl) (fun _ _ _ h=>h) (.inl ⟨by rfl,fun W hW=>by(first|rfl|go_simp)⟩) L2.out ?_
   refine wpAnyH_take (i:=9) (v:= .slice A4 ly c4) rfl (by kernel_rfl) (by kernel_rfl) (by kernel_rfl) (fun _ _ _ h=>h) (.inl ⟨by rfl,fun W hW=>by(first|rfl|go_simp)⟩) L2.out ?_
   refine wpAnyH_take (i:=10) (v:= .int .i64 er) rfl (by kernel_rfl) (by kernel_rfl) (by kernel_rfl) (fun _ _ _ h=>h) (.inl ⟨by rfl,fun W hW=>by(first|rfl|go_simp)⟩) L2.out ?_
   refine wpAnyH_ready (rs:=[11]) (by kernel_rfl) (by simp) (AllReadyH.cons rfl (fun K hK=>?_) AllReadyH.nil)
   go_simp
   have L3:=hid (Dj.below L2.out ((Below.refl _ _).alloc (Nat.le_refl _) (.cells Tryd.zeroCells30 30)))
   have Z3:=hid (newzero W2)
   obtain⟨W3,hW3⟩: ∃W3,W3=W2.alloc (.cells Tryd.zeroCells30 30):=⟨_,rfl⟩
   have Q3:=hid (show Below W2.heap.size W2 W3 from by rw[hW3];exact(Below.refl _ _).alloc (Nat.le_refl _) _)
   rw[<-hW3] at L3 Z3|-
   clear hW3
   obtain⟨gx,hgx⟩: ∃gx,gx=W2.heap.size:=⟨_,rfl⟩
   have GX:=hid (show w.heap.size+3<=gx from by rw[hgx];exact L2.out.lt)
   have GE:=hid hgx
   rw[<-hgx] at Z3|-
   clear hgx
   have R3:=hid (R2.out.below Q3.out)
   refine hK.out _ _ L3.out (fun _=>?_)
   clear hK K
   refine wpAnyH_ready (rs:=[12]) (by kernel_rfl) (by simp) (AllReadyH.cons rfl (fun K hK=>?_) AllReadyH.nil)
   rw[if_pos (by rfl)]
   simp only[Act.put,List.setIfInBounds_toArray,List.set_cons_zero,List.set_cons_succ,List.getElem_toArray,List.getElem_cons_succ,List.getElem_cons_zero]
   refine wp_store_mid 30 (.tmp 12) (.tmp 96) rfl gx 0 m2.ag rfl rfl (by rw[Mm.size _ K2.out];exact MB.there Z3.out zeroM_ok) (by rw[Mm.size _ K2.out];exact sizeM) (Mm.one _) ?_
   have LF:=hid (Dj.far L3.out HGL.out HGD.out GX.out (m2.ag.toList) 0)
   have EF:=hid (mb_setAll Z3.out zeroM_ok K2.out)
   have RF:=hid (R2.out.below (below_sc (b:=gx) (by rw[GE.out];exact Nat.le_refl _) m2.ag.toList 0 _ Q3.out))
   obtain⟨WF,hWF⟩: ∃WF,WF=W3.setCells gx 0 m2.ag.toList:=⟨_,rfl⟩
   have EF:=hid (show MB (W3.setCells gx 0 m2.ag.toList) gx m2 from EF.out)
   rw[<-hWF] at LF EF RF|-
   clear hWF
   refine hK.out _ _ LF.out (fun _=>?_)
   clear hK K
   refine wpAnyH_take (i:=13) (v:= .slice A4 ly c4) rfl (by kernel_rfl) (by kernel_rfl) (by kernel_rfl) (fun _ _ _ h=>h) (.inl ⟨by rfl,fun W hW=>by(first|rfl|go_simp)⟩) LF.out ?_
   refine wpAnyH_take (i:=14) (v:= .int .i64 er) rfl (by kernel_rfl) (by kernel_rfl) (by kernel_rfl) (fun _ _ _ h=>h) (.inl ⟨by rfl,fun W hW=>by(first|rfl|go_simp)⟩) LF.out ?_
   refine wpAnyH_done (by kernel_rfl) ?_ _
   go_wp2_with fail
   go_meet
   exact⟨gx,A4,c4,rfl,rfl,rfl,GX,LF,EF,hid (RF.out.more HB.out)⟩
  ·
   go_simp
   have L2:=hid (Dj.below L1.out ((Below.refl _ _).alloc (Nat.le_refl _) (.cells Tryd.zeroCells30 30)))
   have Z2:=hid (newzero W1)
   obtain⟨W2,hW2⟩: ∃W2,W2=W1.alloc (.cells Tryd.zeroCells30 30):=⟨_,rfl⟩
   have Q2:=hid (show Below W1.heap.size W1 W2 from by rw[hW2];exact(Below.refl _ _).alloc (Nat.le_refl _) _)
   rw[<-hW2] at L2 Z2|-
   clear hW2
   obtain⟨gx,hgx⟩: ∃gx,gx=W1.heap.size:=⟨_,rfl⟩
   have GX:=hid (show w.heap.size+3<=gx from by rw[hgx];exact L1.out.lt)
   have GE:=hid hgx
   rw[<-hgx] at Z2|-
   clear hgx
   refine hK.out _ _ L2.out (fun _=>?_)
   clear hK K
   refine wpAnyH_ready (rs:=[6]) (by kernel_rfl) (by simp) (AllReadyH.cons rfl (fun K hK=>?_) AllReadyH.nil)
   go_simp
   with_reducible refine(KEn.out W2 L2.out).mono ?_
   rintro e W3 ⟨A4,c4,rfl,hR,hB⟩
   have HB:=hid (show w.heap.size+3<=W2.heap.size from L2.out.lt)
   have GB:=hid (show gx<W2.heap.size from Blk.lt Z2.out)
   have L3:=hid (Dj.below L2.out hB)
   have Q3:=hid hB
   have Z3:=hid (Blk.below' Z2.out Q3.out)
   have R3:=hid hR
   clear hR hB
   go_simp
   refine hK.out _ _ L3.out (fun _=>?_)
   clear hK K
   refine wpAnyH_take (i:=7) (v:= .tuple #[.agg m2.ag,.slice A4 ly c4,.int .i64 er]) rfl (by kernel_rfl) (by kernel_rfl) (by kernel_rfl) (fun _ _ _ h=>h) (.inl ⟨by rfl,fun W hW=>by(first|rfl|go_simp)⟩) L3.out ?_
   refine wpAnyH_take (i:=8) (v:= .agg m2.ag) rfl (by kernel_rfl) (by kernel_rfl) (by kernel_rfl) (fun _ _ _ h=>h) (.inl ⟨by rfl,fun W hW=>by(first|rfl|go_simp)⟩) L3.out ?_
   refine wpAnyH_take (i:=9) (v:= .slice A4 ly c4) rfl (by kernel_rfl) (by kernel_rfl) (by kernel_rfl) (fun _ _ _ h=>h) (.inl ⟨by rfl,fun W hW=>by(first|rfl|go_simp)⟩) L3.out ?_
   refine wpAnyH_take (i:=10) (v:= .int .i64 er) rfl (by kernel_rfl) (by kernel_rfl) (by kernel_rfl) (fun _ _ _ h=>h) (.inl ⟨by rfl,fun W hW=>by(first|rfl|go_simp)⟩) L3.out ?_
   refine wpAnyH_ready (rs:=[12]) (by kernel_rfl) (by simp) (AllReadyH.cons rfl (fun K hK=>?_) AllReadyH.nil)
   rw[if_pos (by rfl)]
   simp only[Act.put,List.setIfInBounds_toArray,List.set_cons_zero,List.set_cons_succ,List.getElem_toArray,List.getElem_cons_succ,List.getElem_cons_zero]
   refine wp_store_mid 30 (.tmp 12) (.tmp 96) rfl gx 0 m2.ag rfl rfl (by rw[Mm.size _ K2.out];exact MB.there Z3.out zeroM_ok) (by rw[Mm.size _ K2.out];exact sizeM) (Mm.one _) ?_
   have LF:=hid (Dj.far L3.out HGL.out HGD.out GX.out (m2.ag.toList) 0)
   have EF:=hid (mb_setAll Z3.out zeroM_ok K2.out)
   have RF:=hid (Own.setCs (g:=gx) GB.out m2.ag.toList 0 _ R3.out)
   obtain⟨WF,hWF⟩: ∃WF,WF=W3.setCells gx 0 m2.ag.toList:=⟨_,rfl⟩
   have EF:=hid (show MB (W3.setCells gx 0 m2.ag.toList) gx m2 from EF.out)
   rw[<-hWF] at LF EF RF|-
   clear hWF
   refine hK.out _ _ LF.out (fun _=>?_)
   clear hK K
   refine wpAnyH_take (i:=13) (v:= .slice A4 ly c4) rfl (by kernel_rfl) (by kernel_rfl) (by kernel_rfl) (fun _ _ _ h=>h) (.inl ⟨by rfl,fun W hW=>by(first|rfl|go_simp)⟩) LF.out ?_
   refine wpAnyH_take (i:=14) (v:= .int .i64 er) rfl (by kernel_rfl) (by kernel_rfl) (by kernel_rfl) (fun _ _ _ h=>h) (.inl ⟨by rfl,fun W hW=>by(first|rfl|go_simp)⟩) LF.out ?_
   refine wpAnyH_done (by kernel_rfl) ?_ _
   go_wp2_with fail
   go_meet
   exact⟨gx,A4,c4,rfl,rfl,rfl,GX,LF,EF,hid (RF.out.more HB.out)⟩
 case rest=>
  obtain⟨gx,A4,c4,rfl,rfl,rfl,GX,LF,EF,RF⟩:=hcut
  have Z0:=hid (LF.out.z HGL.out HGD.out)
  have Z1:=hid (Z0.out.ans 0 (.int .i64 er))
  have B1:=hid (LF.out.bel.setCell (p:=⟨w.heap.size+1+1,0,none⟩) (by show w.heap.size<=w.heap.size+1+1;omega) (.int .i64 er))
  obtain⟨VA,hVA⟩: ∃VA,VA=wc.setCell ⟨w.heap.size+1+1,0,none⟩ (.int .i64 er):=⟨_,rfl⟩
  rw[<-hVA] at Z1 B1
  have HVA:=hid hVA.symm
  have T4:=hid (show Blk VA (w.heap.size+1+1) 58 (ansC er q.v none 0 0 none 0 0) from Z1.out.T)
  have t0:=Blk.cell Z0.out.T 0
  have f0:=Blk.frozen Z0.out.T 0
  have ne0:(er==0)=false:=by have:=HER.out;simpa using this
  have ne1: ¬er=0:=HER.out
  clear hVA k1 KEn S1
  go_wp2_with (first
   |(rw[HVA.out];clear HVA t0 f0)
   |(refine wpList_loadC rfl 58 (.tmp 5) rfl _ 58 _ _ rfl T4.out Tryd.underlying58 rfl sizeAns ?_)
   |(refine wpList_storeC rfl 58 (.tmp 4) (.tmp 133) rfl _ 58 _ (ansC er q.v none 0 0 none 0 0) rfl rfl Z1.out.R sizeAns rfl (one_ans _ _ _ _ _ _ _ _) ?_))
  refine bodyPost_ret (v:=_) (hR _ _ _ _ _ rfl (Blk.setRow_ Z1.out.R _) Tryd.underlying58 rfl sizeAns) rfl ?_
  exact⟨rfl,Z1.out.D.row (by have:=HGD.out;omega) (by have:=HGD.out;omega) _,Blk.rowFar Z1.out.L (by have:=HGL.out;omega),below_setRow B1.out (by omega) _⟩
end Go.Proofs.YthoiikkjjaldnaaDoor
namespace Go.Proofs.YthoiikkjjaldnaaDoor
set_option linter.unusedVariables false
set_option linter.unusedSimpArgs false
set_option maxRecDepth 100000
open Go.RowKit
abbrev Ses:=Int->Option (En×Mm)
def updS (σ:Ses) (v:Int) (o:Option (En×Mm)):Ses:=fun u=>if u=v then o else σ u
theorem updS_id (σ:Ses) (v:Int):updS σ v (σ v)=σ:=by
 funext u
 unfold updS
 split
 ·next h=>rw[h]
 ·rfl
theorem updS_at (σ:Ses) (v:Int) (o:Option (En×Mm)):updS σ v o v=o:=if_pos rfl
theorem updS_ne (σ:Ses) {v u:Int} (o:Option (En×Mm)) (h:u≠v):updS σ v o u=σ u:=if_neg h
def dsC (D:DataW Unit) (so:Option (En×Mm)) (k u:Int) (r:Bool) (xs zs:List Int):Int×List Int×List Int×Option (En×Mm):=
 if k<1\/5<k then(4,[],[],so)
 else if k=1 then(if dkOp D u so.isSome=0 then(0,[],[],some (enB,freshM)) else(dkOp D u so.isSome,[],[],so))
 else match so with
  |none=>(6,[],[],none)
  |some (e,m)=>
   if k=2 then(if encErr e xs=0 then(0,enBs e xs r,enY e xs r,some (enE e xs r,m)) else(encErr e xs,[],[],some (e,m)))
   else if k=3 then(if deE m zs=0 then(0,[],deY m zs,some (e,deM m zs)) else(deE m zs,[],[],some (e,m)))
   else if k=4 then(0,[],coY m,some (e,coM m))
   else(0,[],[],none)
structure Dk (W:World) (gK gM n:Nat) (D:DataW Unit) (β:Int->Nat) (σ:Ses):Prop where
 d:Dd W gK gM n D
 T:Maps.Tidy D
 no: ∀u,σ u=none->Maps.has D (keyL u)=false
 yes: ∀u e m,σ u=some (e,m)->Maps.has D (keyL u)=true/\D.atKey (keyL u) .nil= .lit (.int .i64 (β u:Nat))/\LB W (β u) e m/\e.ok/\m.ok/\goodM m=true
 inj: ∀u u',σ u≠none->σ u'≠none->β u=β u'->u=u'
structure DkR (w w':World) (gK gM n n':Nat) (D D':DataW Unit) (β β':Int->Nat) (σ σ':Ses) (A5:Option Addr) (c5:Nat) (bs:List Int) (A6:Option Addr) (c6:Nat) (ys:List Int):Prop where
 K:Dk w' gK gM n' D' β' σ'
 Q:OwnB w' w.heap.size A5 c5 bs
 Y:Own w' w.heap.size A6 c6 ys
 n:n'<=n+1
 sz:Maps.size D'<=Maps.size D+1
 old: ∀u,σ' u≠none->(σ u≠none/\β' u=β u)\/w.heap.size<=β' u
 gr: ∃b,w.grownBy w' (some b)/\(b=gM\/∃u,σ u≠none/\b=β u)
theorem keyL_ne {u v:Int} (h:u≠v):keyL u≠keyL v:=fun x=>by
 unfold keyL at x
 injection x with _ h2
 exact h h2
theorem keyL_lit (v:Int):WideAt.IsKeyLit (keyL v):=by simp[keyL,WideAt.IsKeyLit]
theorem blk_kept {w w':World} {b g:Nat} {t:TypeId} {cs:Array Value} (hG:w.grownBy w' (some b)) (h:Blk w g t cs) (hn:g≠b):Blk w' g t cs:=
 (hG.block g (Blk.lt h) (fun x=>hn (Option.some.inj x))).trans h
section
variable {w w' W W':World} {gK gM n g b:Nat} {D:DataW Unit} {β:Int->Nat} {σ:Ses} {u:Int} {e e':En} {m m':Mm} {A5 A6:Option Addr} {c5 c6:Nat} {bs ys:List Int} {so:Option (En×Mm)}
theorem Dk.lt (h:Dk W gK gM n D β σ):gK<W.heap.size/\gM<W.heap.size:=⟨Blk.lt h.d.K,Dd.lt h.d⟩
theorem Dk.ses (h:Dk W gK gM n D β σ) (hu:σ u≠none): ∃e m,LB W (β u) e m:=by
 cases hs:σ u with
 |none=>exact absurd hs hu
 |some p=>exact⟨p.1,p.2,(h.yes u p.1 p.2 hs).2.2.1⟩
theorem Dk.below (h:Dk W gK gM n D β σ) (hb:Below W.heap.size W W'):Dk W' gK gM n D β σ:=
 ⟨h.d.below hb,h.T,h.no,fun u e m hu=>by obtain⟨h1,h2,h3,h4⟩:=h.yes u e m hu;exact⟨h1,h2,Blk.below' h3 hb,h4⟩,h.inj⟩
theorem Dd.kept_ {D:DataW Unit} (h:Dd W gK gM n D) (hG:W.grownBy W' (some b)) (h1:gK≠b) (h2:gM≠b):Dd W' gK gM n D:=
 ⟨blk_kept hG h.K h1,World.ownsMap.kept (row:=some b) h.M hG (by intro e;exact h2 (Option.some.inj e))⟩
theorem Dk.kept (h:Dk W gK gM n D β σ) (hG:W.grownBy W' (some b)) (h1:gK≠b) (h2:gM≠b) (h3: ∀u,σ u≠none->β u≠b):Dk W' gK gM n D β σ:=
 ⟨h.d.kept_ hG h1 h2,h.T,h.no,fun u e m hu=>by obtain⟨k1,k2,k3,k4⟩:=h.yes u e m hu;exact⟨k1,k2,blk_kept hG k3 (h3 u (by rw[hu];simp)),k4⟩,h.inj⟩
theorem Dk.same (h:Dk w gK gM n D β σ) (hD:Dd w' gK gM n D) (hb:Below w.heap.size w w') (hu:σ u=so):DkR w w' gK gM n n D D β β σ (updS σ u so) none 0 [] none 0 []:=by
 subst hu
 rw[updS_id]
 exact⟨h.below hb,OwnB.nil,Own.nil,by omega,by omega,fun u hu=> .inl ⟨hu,rfl⟩,gM,⟨hb.os,hb.tape,hb.output,hb.size,fun i hi _=>hb.block i hi⟩,.inl rfl⟩
theorem Dk.line (h:Dk w gK gM n D β σ) (hs:σ u=some (e,m)) (hD:Dd w' gK gM n D) (hL:LB w' (β u) e' m') (hG:w.grownBy w' (some (β u))) (k:e'.ok) (k2:m'.ok) (g2:goodM m'=true) (hQ:OwnB w' w.heap.size A5 c5 bs) (hY:Own w' w.heap.size A6 c6 ys):
 DkR w w' gK gM n n D D β β σ (updS σ u (some (e',m'))) A5 c5 bs A6 c6 ys:=by
 have hu:σ u≠none:=by rw[hs];simp
 have up: ∀x,updS σ u (some (e',m')) x≠none->σ x≠none:=fun x hx=>by
  by_cases e:x=u
  ·rw[e];exact hu
  ·rwa [updS_ne _ _ e] at hx
 refine⟨⟨hD,h.T,fun x hx=>?_,fun x e1 m1 hx=>?_,fun x y hx hy=>h.inj x y (up x hx) (up y hy)⟩,hQ,hY,by omega,by omega,fun x hx=> .inl ⟨up x hx,rfl⟩,β u,hG,.inr ⟨u,hu,rfl⟩⟩
 ·by_cases e:x=u
  ·rw[e,updS_at] at hx;cases hx
  ·rw[updS_ne _ _ e] at hx;exact h.no x hx
 ·by_cases e:x=u
  ·subst e
   rw[updS_at] at hx
   injection hx with hx
   injection hx with h1 h2
   subst h1 h2
   obtain⟨k1,k3,_⟩:=h.yes x _ _ hs
   exact⟨k1,k3,hL,k,k2,g2⟩
  ·rw[updS_ne _ _ e] at hx
   obtain⟨k1,k3,k4,k5⟩:=h.yes x _ _ hx
   exact⟨k1,k3,blk_kept hG k4 (fun x2=>e (h.inj x u (by rw[hx];simp) hu x2)),k5⟩
theorem Dk.put (h:Dk w gK gM n D β σ) (hs:σ u=none) (hg:w.heap.size<=g) (hD:Dd w' gK gM (n+1) (D.put (keyL u) (.lit (.int .i64 (g:Nat))))) (hL:LB w' g enB freshM) (hG:w.grownBy w' (some gM)):
 DkR w w' gK gM n (n+1) D (D.put (keyL u) (.lit (.int .i64 (g:Nat)))) β (fun x=>if x=u then g else β x) σ (updS σ u (some (enB,freshM))) none 0 [] none 0 []:=by
 have hb: ∀x,x≠u->updS σ u (some (enB,freshM)) x≠none->σ x≠none/\β x<w.heap.size:=fun x e hx=>by
  rw[updS_ne _ _ e] at hx
  obtain⟨_,_,h3⟩:=h.ses hx
  exact⟨hx,Blk.lt h3⟩
 refine⟨⟨hD,h.T.put (keyL_lit u) _,fun x hx=>?_,fun x e1 m1 hx=>?_,fun x y hx hy hxy=>?_⟩,OwnB.nil,Own.nil,by omega,?_,fun x hx=>?_,gM,hG,.inl rfl⟩
 ·by_cases e:x=u
  ·rw[e,updS_at] at hx;cases hx
  ·rw[updS_ne _ _ e] at hx
   rw[Maps.has_put_other (keyL_ne e)]
   exact h.no x hx
 ·by_cases e:x=u
  ·subst e
   rw[updS_at] at hx
   injection hx with hx
   injection hx with h1 h2
   subst h1 h2
   exact⟨Maps.has_put_same h.T.isMap (keyL_lit _) _,by rw[Maps.atKey_put_same h.T.isMap (keyL_lit _),if_pos rfl],by rw[if_pos rfl];exact hL,enB_fit.k,freshM_ok,fresh_good⟩
  ·rw[updS_ne _ _ e] at hx
   obtain⟨k1,k3,k4,k5⟩:=h.yes x _ _ hx
   refine⟨by rw[Maps.has_put_other (keyL_ne e)];exact k1,by rw[Maps.atKey_put_other (keyL_ne e),if_neg e];exact k3,?_,k5⟩
   rw[if_neg e]
   exact blk_kept hG k4 (fun x2=>LB.neM k4 h.d x2.symm)
 ·by_cases e1:x=u
  ·by_cases e2:y=u
   ·rw[e1,e2]
   ·rw[if_pos e1,if_neg e2] at hxy
    have:=(hb y e2 hy).2
    omega
  ·by_cases e2:y=u
   ·rw[if_pos e2,if_neg e1] at hxy
    have:=(hb x e1 hx).2
    omega
   ·rw[if_neg e1,if_neg e2] at hxy
    exact h.inj x y (hb x e1 hx).1 (hb y e2 hy).1 hxy
 ·rw[Maps.size_put h.T]
  split<;>omega
 ·by_cases e:x=u
  ·rw[if_pos e];exact .inr hg
  ·rw[if_neg e];exact .inl ⟨(hb x e hx).1,rfl⟩
theorem Dk.del (h:Dk w gK gM n D β σ) (hD:Dd w' gK gM n (D.del (keyL u))) (hG:w.grownBy w' (some gM)):DkR w w' gK gM n n D (D.del (keyL u)) β β σ (updS σ u none) none 0 [] none 0 []:=by
 have up: ∀x,updS σ u none x≠none->x≠u/\σ x≠none:=fun x hx=>by
  by_cases e:x=u
  ·rw[e,updS_at] at hx;exact absurd rfl hx
  ·rw[updS_ne _ _ e] at hx;exact⟨e,hx⟩
 refine⟨⟨hD,h.T.del _,fun x hx=>?_,fun x e1 m1 hx=>?_,fun x y hx hy=>h.inj x y (up x hx).2 (up y hy).2⟩,OwnB.nil,Own.nil,by omega,?_,fun x hx=> .inl ⟨(up x hx).2,rfl⟩,gM,hG,.inl rfl⟩
 ·by_cases e:x=u
  ·rw[e];exact Maps.has_del_same
  ·rw[updS_ne _ _ e] at hx
   rw[Maps.has_del_other (keyL_ne e)]
   exact h.no x hx
 ·have e:=(up x (by rw[hx];simp)).1
  rw[updS_ne _ _ e] at hx
  obtain⟨k1,k3,k4,k5⟩:=h.yes x _ _ hx
  exact⟨by rw[Maps.has_del_other (keyL_ne e)];exact k1,by rw[Maps.atKey_del_other (keyL_ne e)];exact k3,blk_kept hG k4 (fun x2=>LB.neM k4 h.d x2.symm),k5⟩
 ·have:=Maps.size_del (k:=keyL u) h.T
  omega
end
theorem deM_good {m:Mm} (g:goodM m=true) {zs:List Int} (h:deE m zs=0):goodM (deM m zs)=true:=by
 unfold deM
 rw[if_pos h]
 unfold deE at h
 rw[if_pos g] at h
 exact frM_good g (unE_to h) (unL_len zs)
theorem enE_ok {e:En} (k:e.ok) (s:List Int) (r:Bool):(enE e s r).ok:=by
 unfold enE
 split
 ·next h0=>
  have h1:(enHi e s).2.2=true:=by
   unfold encErr at h0
   split at h0
   ·split at h0
    ·split at h0
     ·assumption
     ·cases h0
    ·cases h0
   ·cases h0
  obtain⟨h2,h3⟩:=hiA_len s _ _ _ _ 80 h1
  exact⟨h3,by unfold enX;rw[List.length_append,List.length_drop,k.x];show _+(enHi e s).2.1.length=120;unfold enHi;rw[h2],frM_ok k.m (enPk_to _ _ _) (enPk_len _ _ _)⟩
 ·exact⟨by simp,by simp,zeroM_ok⟩
theorem deskDo_any (gK gM n:Nat) (D:DataW Unit) (β:Int->Nat) (σ:Ses) (q:Cq) (xs zs:List Int) (w:World) (T1:TabA w 2 rootsL) (T2:TabA w 0 gainsL) (T3:TabA w 1 widthL)
 (h:Dk w gK gM n D β σ) (hv: -9223372036854775808<=q.v/\q.v<=9223372036854775807) (hn:n<maxLen)
 (hr:Rs w w.heap.size q.A xs) (hl:xs.length=q.n) (hx:q.n<=17592186044000) (hr2:Rb w w.heap.size q.A2 zs) (hl2:zs.length=q.n2) (hc:q.n2<=q.c2) (hz:Byts zs):
 Calls Tryd.prog 18 #[.pointer (some ⟨gK,0,none⟩),.agg #[.int .i64 q.k,.int .i64 q.v,.bool q.r,.slice q.A q.n q.c,.slice q.A2 q.n2 q.c2]] w (fun x w'=> ∃A5 c5 A6 c6 n' D' β',x= .returned (.agg (ansC (dsC D (σ q.v) q.k q.v q.r xs zs).1 q.v A5 (dsC D (σ q.v) q.k q.v q.r xs zs).2.1.length c5 A6 (dsC D (σ q.v) q.k q.v q.r xs zs).2.2.1.length c6))/\
  DkR w w' gK gM n n' D D' β β' σ (updS σ q.v (dsC D (σ q.v) q.k q.v q.r xs zs).2.2.2) A5 c5 (dsC D (σ q.v) q.k q.v q.r xs zs).2.1 A6 c6 (dsC D (σ q.v) q.k q.v q.r xs zs).2.2.1):=by
 by_cases h0:q.k<1\/5<q.k
 ·rw[show dsC D (σ q.v) q.k q.v q.r xs zs=(4,[],[],σ q.v) from by unfold dsC;rw[if_pos h0]]
  refine(deskDo_kind gK gM n D q w h.d h0).mono ?_
  rintro x w' ⟨hx,hD,hb⟩
  exact⟨none,0,none,0,n,D,β,hx,h.same hD hb rfl⟩
 by_cases h1:q.k=1
 ·cases hs:σ q.v with
  |none=>
   have hh:=h.no _ hs
   by_cases h2:dkOp D q.v false=0
   ·rw[show dsC D none q.k q.v q.r xs zs=(0,[],[],some (enB,freshM)) from by unfold dsC;rw[if_neg h0,if_pos h1];exact if_pos h2]
    refine(deskDo_open gK gM n D q w h.d hv hh h1 h.lt h2 hn).mono ?_
    rintro x w' ⟨g,hx,hg,hD,hL,hG⟩
    exact⟨none,0,none,0,n+1,_,_,hx,h.put hs hg hD hL hG⟩
   ·rw[show dsC D none q.k q.v q.r xs zs=(dkOp D q.v false,[],[],none) from by unfold dsC;rw[if_neg h0,if_pos h1];exact if_neg h2]
    refine(deskDo_open_no gK gM n D q w h.d hv hh h1 h.lt h2).mono ?_
    rintro x w' ⟨hx,hD,hb⟩
    exact⟨none,0,none,0,n,D,β,hx,h.same hD hb hs⟩
  |some p=>
   obtain⟨e,m⟩:=p
   obtain⟨k1,k2,k3,k4,k5,k6⟩:=h.yes _ _ _ hs
   have h2:dkOp D q.v true≠0:=by
    unfold dkOp
    split
    ·omega
    ·rw[if_pos rfl];omega
   rw[show dsC D (some (e,m)) q.k q.v q.r xs zs=(dkOp D q.v true,[],[],some (e,m)) from by unfold dsC;rw[if_neg h0,if_pos h1];exact if_neg h2]
   refine(deskDo_open_twice gK gM n D q w h.d hv _ k1 k2 h1 h.lt h2).mono ?_
   rintro x w' ⟨hx,hD,hb⟩
   exact⟨none,0,none,0,n,D,β,hx,h.same hD hb hs⟩
 cases hs:σ q.v with
 |none=>
  rw[show dsC D none q.k q.v q.r xs zs=(6,[],[],none) from by unfold dsC;rw[if_neg h0,if_neg h1]]
  refine(deskDo_none gK gM n D q w h.d hv (h.no _ hs) (by omega) h.lt).mono ?_
  rintro x w' ⟨hx,hD,hb⟩
  exact⟨none,0,none,0,n,D,β,hx,h.same hD hb hs⟩
 |some p=>
  obtain⟨e,m⟩:=p
  obtain⟨k1,k2,k3,k4,k5,k6⟩:=h.yes _ _ _ hs
  by_cases h2:q.k=2
  ·have ke:=enE_ok k4 xs q.r
   by_cases h3:encErr e xs=0
   ·rw[show dsC D (some (e,m)) q.k q.v q.r xs zs=(0,enBs e xs q.r,enY e xs q.r,some (enE e xs q.r,m)) from by unfold dsC;rw[if_neg h0,if_neg h1];show(if q.k=2 then _ else _)=_;rw[if_pos h2,if_pos h3]]
    refine(deskDo_enc gK gM n D _ e m q xs w T1 T2 T3 h.d k3 k4 k5 hv k1 k2 h2 (Blk.lt k3) h.lt hr hl hx h3 ke).mono ?_
    rintro x w' ⟨A3,c3,A4,c4,hx,hQ,hY,hD,hL,hG⟩
    exact⟨A3,c3,A4,c4,n,D,β,hx,h.line hs hD hL hG ke k5 k6 hQ hY⟩
   ·rw[show dsC D (some (e,m)) q.k q.v q.r xs zs=(encErr e xs,[],[],some (e,m)) from by unfold dsC;rw[if_neg h0,if_neg h1];show(if q.k=2 then _ else _)=_;rw[if_pos h2,if_neg h3]]
    refine(deskDo_encbad gK gM n D _ e m q xs w T1 T2 T3 h.d k3 k4 k5 hv k1 k2 h2 (Blk.lt k3) h.lt hr hl hx h3 ke).mono ?_
    rintro x w' ⟨hx,hD,_,hb⟩
    exact⟨none,0,none,0,n,D,β,hx,h.same hD hb hs⟩
  by_cases h4:q.k=3
  ·by_cases h3:deE m zs=0
   ·rw[show dsC D (some (e,m)) q.k q.v q.r xs zs=(0,[],deY m zs,some (e,deM m zs)) from by unfold dsC;rw[if_neg h0,if_neg h1];show(if q.k=2 then _ else _)=_;rw[if_neg h2,if_pos h4,if_pos h3]]
    refine(deskDo_dec gK gM n D _ e m q zs w T1 T2 T3 h.d k3 k4 k5 hv k1 k2 h4 (Blk.lt k3) h.lt hr2 hl2 hc hz h3).mono ?_
    rintro x w' ⟨A4,c4,hx,hY,hD,hL,hG⟩
    exact⟨none,0,A4,c4,n,D,β,hx,h.line hs hD hL hG k4 (deM_ok k5 zs) (deM_good k6 h3) OwnB.nil hY⟩
   ·rw[show dsC D (some (e,m)) q.k q.v q.r xs zs=(deE m zs,[],[],some (e,m)) from by unfold dsC;rw[if_neg h0,if_neg h1];show(if q.k=2 then _ else _)=_;rw[if_neg h2,if_pos h4,if_neg h3]]
    refine(deskDo_decbad gK gM n D _ e m q zs w T1 T2 T3 h.d k3 k4 k5 hv k1 k2 h4 (Blk.lt k3) h.lt hr2 hl2 hc hz h3).mono ?_
    rintro x w' ⟨hx,hD,_,hb⟩
    exact⟨none,0,none,0,n,D,β,hx,h.same hD hb hs⟩
  by_cases h5:q.k=4
  ·rw[show dsC D (some (e,m)) q.k q.v q.r xs zs=(0,[],coY m,some (e,coM m)) from by unfold dsC;rw[if_neg h0,if_neg h1];show(if q.k=2 then _ else _)=_;rw[if_neg h2,if_neg h4,if_pos h5]]
   refine(deskDo_era gK gM n D _ e m q w h.d k3 k4 k5 k6 hv k1 k2 h5 (Blk.lt k3) h.lt).mono ?_
   rintro x w' ⟨A4,c4,hx,hY,hD,hL,hG⟩
   exact⟨none,0,A4,c4,n,D,β,by rw[(coM_good k6).2];exact hx,h.line hs hD hL hG k4 (coM_ok k5) (coM_good k6).1 OwnB.nil hY⟩
  ·rw[show dsC D (some (e,m)) q.k q.v q.r xs zs=(0,[],[],none) from by unfold dsC;rw[if_neg h0,if_neg h1];show(if q.k=2 then _ else _)=_;rw[if_neg h2,if_neg h4,if_neg h5]]
   refine(deskDo_close gK gM n D _ e m q w h.d k3 k4 k5 hv k1 k2 (by omega) h.lt).mono ?_
   rintro x w' ⟨hx,hD,hG⟩
   exact⟨none,0,none,0,n,_,β,hx,h.del hD hG⟩
end Go.Proofs.YthoiikkjjaldnaaDoor
namespace Go.Proofs.YthoiikkjjaldnaaDoor
set_option linter.unusedVariables false
set_option linter.unusedSimpArgs false
set_option maxRecDepth 100000
open Go.RowKit
theorem blk_apart {W:World} {a b:Nat} {t u:TypeId} {c d:Array Value} (h1:Blk W a t c) (h2:Blk W b u d) (ht:t≠u):a≠b:=fun x=>by
 subst x
 unfold Blk at h1 h2
 rw[h1] at h2
 injection h2 with h2
 injection h2 with h3 h4
 exact ht h4
theorem Dd.blk_ne {W:World} {gK gM n g:Nat} {D:DataW Unit} {t:TypeId} {cs:Array Value} (hD:Dd W gK gM n D) (h:Blk W g t cs):gM≠g:=fun x=>by
 subst x
 obtain⟨es,clock,hb,_⟩:=hD.M
 unfold Blk at h
 rw[hb] at h
 cases h
section
variable {w w' v:World} {gK gM n n' g b gK2 gM2 n2:Nat} {D D' D2:DataW Unit} {β β' β2:Int->Nat} {σ σ' σ2:Ses} {A5 A6 A:Option Addr} {c5 c6 c:Nat} {bs ys xs:List Int} {t:TypeId} {cs:Array Value}
theorem DkR.size (r:DkR w w' gK gM n n' D D' β β' σ σ' A5 c5 bs A6 c6 ys):w.heap.size<=w'.heap.size:=by
 obtain⟨b,hG,_⟩:=r.gr
 exact hG.size
theorem DkR.blk (r:DkR w w' gK gM n n' D D' β β' σ σ' A5 c5 bs A6 c6 ys) (hK:Dk w gK gM n D β σ) (h:Blk w g t cs) (ht:t≠104):Blk w' g t cs:=by
 obtain⟨b,hG,hb⟩:=r.gr
 refine blk_kept hG h ?_
 rcases hb with rfl|⟨u,hu,rfl⟩
 ·exact fun x=>hK.d.blk_ne h x.symm
 ·obtain⟨e,m,hL⟩:=hK.ses hu
  exact blk_apart h hL ht
theorem DkR.other (r:DkR w w' gK gM n n' D D' β β' σ σ' A5 c5 bs A6 c6 ys) (hK:Dk w gK gM n D β σ) (h:Dk w gK2 gM2 n2 D2 β2 σ2) (hM:gM≠gM2) (hd: ∀u u',σ u≠none->σ2 u'≠none->β u≠β2 u'):Dk w' gK2 gM2 n2 D2 β2 σ2:=by
 obtain⟨b,hG,hb⟩:=r.gr
 rcases hb with rfl|⟨u,hu,rfl⟩
 ·refine h.kept hG (fun x=>hK.d.blk_ne h.d.K x.symm) (fun x=>hM x.symm) (fun u hu x=>?_)
  obtain⟨e,m,hL⟩:=h.ses hu
  exact hK.d.blk_ne hL x.symm
 ·obtain⟨e,m,hL⟩:=hK.ses hu
  exact h.kept hG (blk_apart h.d.K hL (by decide)) (h.d.blk_ne hL) (fun u' hu' x=>hd u u' hu hu' x.symm)
theorem DkR.below (r:DkR w w' gK gM n n' D D' β β' σ σ' A5 c5 bs A6 c6 ys) (h:Below v.heap.size v w) (hM:v.heap.size<=gM) (hs: ∀u,σ u≠none->v.heap.size<=β u):Below v.heap.size v w':=by
 obtain⟨b,hG,hb⟩:=r.gr
 have hvb:v.heap.size<=b:=by
  rcases hb with rfl|⟨u,hu,rfl⟩
  ·exact hM
  ·exact hs u hu
 exact⟨hG.os.trans h.os,hG.tape.trans h.tape,hG.output.trans h.output,Nat.le_trans h.size hG.size,fun i hi=>(hG.block i (Nat.lt_of_lt_of_le hi h.size) (fun x=>by have:=Option.some.inj x;omega)).trans (h.block i hi)⟩
theorem DkR.own (r:DkR w w' gK gM n n' D D' β β' σ σ' A5 c5 bs A6 c6 ys) (h:Own w b A c xs) (hM:gM<b) (hs: ∀u,σ u≠none->β u<b):Own w' b A c xs:=by
 obtain⟨b',hG,hb⟩:=r.gr
 refine h.kept hG (fun a ha x=>?_)
 have h1:=(h.lt a ha).1
 have h2:=Option.some.inj x
 rcases hb with rfl|⟨u,hu,rfl⟩
 ·omega
 ·have:=hs u hu
  omega
theorem DkR.ownB (r:DkR w w' gK gM n n' D D' β β' σ σ' A5 c5 bs A6 c6 ys) (h:OwnB w b A c xs) (hM:gM<b) (hs: ∀u,σ u≠none->β u<b):OwnB w' b A c xs:=by
 obtain⟨b',hG,hb⟩:=r.gr
 refine ownB_kept h hG (fun a ha x=>?_)
 have h1:=(h.lt a ha).1
 have h2:=Option.some.inj x
 rcases hb with rfl|⟨u,hu,rfl⟩
 ·omega
 ·have:=hs u hu
  omega
end
theorem Dk.low {w:World} {gK gM n:Nat} {D:DataW Unit} {β:Int->Nat} {σ:Ses} (h:Dk w gK gM n D β σ):gM<w.heap.size/\∀u,σ u≠none->β u<w.heap.size:=⟨h.lt.2,fun u hu=>by
 obtain⟨e,m,hL⟩:=h.ses hu
 exact Blk.lt hL⟩
theorem Dk.empty {w:World} {gK gM:Nat} (h:Dd w gK gM 0 (.map [])):Dk w gK gM 0 (.map []) (fun _=>0) (fun _=>none):=
 ⟨h,Maps.tidy_empty,fun _ _=>rfl,fun _ _ _ h=>(by cases h),fun _ _ h=>absurd rfl h⟩
end Go.Proofs.YthoiikkjjaldnaaDoor
namespace Go.Proofs.YthoiikkjjaldnaaDoor
set_option linter.unusedVariables false
set_option linter.unusedSimpArgs false
set_option maxRecDepth 100000
open Go.RowKit
theorem dsC_same {D D2:DataW Unit} (h:Maps.size D<32) (h2:Maps.size D2<32) (so:Option (En×Mm)) (k u:Int) (r:Bool) (xs zs:List Int):dsC D so k u r xs zs=dsC D2 so k u r xs zs:=by
 have e: ∀b,dkOp D u b=dkOp D2 u b:=fun b=>by
  unfold dkOp
  rw[if_neg (show¬32<=Maps.size D by omega),if_neg (show¬32<=Maps.size D2 by omega)]
 unfold dsC
 rw[e]
structure Tl (w W:World) (gK gM gK2 gM2 n n2:Nat) (D D2:DataW Unit) (β β2:Int->Nat) (σ σ2:Ses) (i:Nat):Prop where
 a:Dk W gK gM n D β σ
 b:Dk W gK2 gM2 n2 D2 β2 σ2
 bel:Below w.heap.size w W
 l1:w.heap.size<=gM
 l2:w.heap.size<=gM2
 ne:gM≠gM2
 s1: ∀u,σ u≠none->w.heap.size<=β u
 s2: ∀u,σ2 u≠none->w.heap.size<=β2 u
 dis: ∀u u',σ u≠none->σ2 u'≠none->β u≠β2 u'
 n1:n<=i
 n2:n2<=i
 z1:Maps.size D<=i
 z2:Maps.size D2<=i
section
variable {w W W':World} {gK gM gK2 gM2 n n2 n':Nat} {D D2 D':DataW Unit} {β β2 β':Int->Nat} {σ σ2 σ':Ses} {i j:Nat} {A5 A6:Option Addr} {c5 c6:Nat} {bs ys:List Int}
theorem Tl.below (h:Tl w W gK gM gK2 gM2 n n2 D D2 β β2 σ σ2 i) (hb:Below W.heap.size W W'):Tl w W' gK gM gK2 gM2 n n2 D D2 β β2 σ σ2 i:=
 ⟨h.a.below hb,h.b.below hb,h.bel.trans (hb.mono h.bel.size),h.l1,h.l2,h.ne,h.s1,h.s2,h.dis,h.n1,h.n2,h.z1,h.z2⟩
theorem Tl.more (h:Tl w W gK gM gK2 gM2 n n2 D D2 β β2 σ σ2 i) (hi:i<=j):Tl w W gK gM gK2 gM2 n n2 D D2 β β2 σ σ2 j:=
 ⟨h.a,h.b,h.bel,h.l1,h.l2,h.ne,h.s1,h.s2,h.dis,Nat.le_trans h.n1 hi,Nat.le_trans h.n2 hi,Nat.le_trans h.z1 hi,Nat.le_trans h.z2 hi⟩
theorem Tl.one (h:Tl w W gK gM gK2 gM2 n n2 D D2 β β2 σ σ2 i) (r:DkR W W' gK gM n n' D D' β β' σ σ' A5 c5 bs A6 c6 ys):Tl w W' gK gM gK2 gM2 n' n2 D' D2 β' β2 σ' σ2 (i+1):=by
 refine⟨r.K,r.other h.a h.b h.ne h.dis,r.below h.bel h.l1 h.s1,h.l1,h.l2,h.ne,fun u hu=>?_,h.s2,fun u u' hu hu'=>?_,by have:=r.n;have:=h.n1;omega,by have:=h.n2;omega,by have:=r.sz;have:=h.z1;omega,by have:=h.z2;omega⟩
 ·rcases r.old u hu with⟨k,e⟩|k
  ·rw[e];exact h.s1 u k
  ·exact Nat.le_trans h.bel.size k
 ·rcases r.old u hu with⟨k,e⟩|k
  ·rw[e];exact h.dis u u' k hu'
  ·have:=h.b.low.2 u' hu'
   omega
theorem Tl.two (h:Tl w W gK gM gK2 gM2 n n2 D D2 β β2 σ σ2 (i+1)) (hn:n2<=i) (hz:Maps.size D2<=i) (r:DkR W W' gK2 gM2 n2 n' D2 D' β2 β' σ2 σ' A5 c5 bs A6 c6 ys):Tl w W' gK gM gK2 gM2 n n' D D' β β' σ σ' (i+1):=by
 refine⟨r.other h.b h.a h.ne.symm (fun u u' hu hu' x=>h.dis u' u hu' hu x.symm),r.K,r.below h.bel h.l2 h.s2,h.l1,h.l2,h.ne,h.s1,fun u hu=>?_,fun u u' hu hu'=>?_,h.n1,by have:=r.n;omega,h.z1,by have:=r.sz;omega⟩
 ·rcases r.old u hu with⟨k,e⟩|k
  ·rw[e];exact h.s2 u k
  ·exact Nat.le_trans h.bel.size k
 ·rcases r.old u' hu' with⟨k,e⟩|k
  ·rw[e];exact h.dis u u' hu k
  ·have:=h.a.low.2 u hu
   omega
end
theorem Ck.one (q:Ck):q.cs.toArray.all (·.oneCell')=true:=one_call q.k q.v q.r q.A q.xs.length q.c q.A2 q.zs.length q.c2
theorem ck_k {w:World} {g:Nat} {q:Ck} (h:Blk w g 56 q.cs.toArray):w.cell? ⟨g,0,none⟩=some (.int .i64 q.k)/\w.cell? ⟨g,1,none⟩=some (.int .i64 q.v):=⟨Blk.cell h 0,Blk.cell h 1⟩
theorem enY_le (e:En) (xs:List Int) (r:Bool):(enY e xs r).length<=1000:=by
 unfold enY
 by_cases h:encErr e xs=0
 ·rw[if_pos h,frO_len];omega
 ·rw[if_neg h];exact Nat.zero_le _
theorem deY_le (m:Mm) (zs:List Int):(deY m zs).length<=1000:=by
 unfold deY
 by_cases h:deE m zs=0
 ·rw[if_pos h,frO_len];omega
 ·rw[if_neg h];exact Nat.zero_le _
theorem dsC_len {D:DataW Unit} {so:Option (En×Mm)} (h: ∀e m,so=some (e,m)->goodM m=true) (k u:Int) (r:Bool) (xs zs:List Int):(dsC D so k u r xs zs).2.2.1.length<=1000:=by
 unfold dsC
 by_cases h0:k<1\/5<k
 ·rw[if_pos h0];exact Nat.zero_le _
 rw[if_neg h0]
 by_cases h1:k=1
 ·rw[if_pos h1]
  by_cases h2:dkOp D u so.isSome=0
  ·rw[if_pos h2];exact Nat.zero_le _
  ·rw[if_neg h2];exact Nat.zero_le _
 rw[if_neg h1]
 cases so with
 |none=>exact Nat.zero_le _
 |some p=>
  obtain⟨e,m⟩:=p
  have g:=h e m rfl
  have hc:(coY m).length<=1000:=by rw[(coM_good g).2];omega
  show(if k=2 then(if encErr e xs=0 then(0,enBs e xs r,enY e xs r,some (enE e xs r,m)) else(encErr e xs,[],[],some (e,m)))
   else if k=3 then(if deE m zs=0 then(0,[],deY m zs,some (e,deM m zs)) else(deE m zs,[],[],some (e,m)))
   else if k=4 then(0,[],coY m,some (e,coM m))
   else(0,[],[],none):Int×List Int×List Int×Option (En×Mm)).2.2.1.length<=1000
  by_cases h2:k=2
  ·rw[if_pos h2]
   by_cases h3:encErr e xs=0
   ·rw[if_pos h3];exact enY_le e xs r
   ·rw[if_neg h3];exact Nat.zero_le _
  rw[if_neg h2]
  by_cases h4:k=3
  ·rw[if_pos h4]
   by_cases h3:deE m zs=0
   ·rw[if_pos h3];exact deY_le m zs
   ·rw[if_neg h3];exact Nat.zero_le _
  rw[if_neg h4]
  by_cases h5:k=4
  ·rw[if_pos h5];exact hc
  ·rw[if_neg h5];exact Nat.zero_le _
theorem walkTopLone (w:World) (T1:TabA w 2 rootsL) (T2:TabA w 0 gainsL) (T3:TabA w 1 widthL) (A:Option Addr) (n c:Nat) (hc:n<=c) (hc2:c<=9223372036854775807) (hr:CT w w.heap.size A n) (vo:Int) (hvo: -9223372036854775808<=vo/\vo<=9223372036854775807):
 Calls Tryd.prog 5 #[.slice A n c,.int .i64 vo] w (fun e w'=>e= .returned (.bool true)/\Below w.heap.size w w'):=by
 have KN:=hid (fun W=>deskNew_any W)
 have HR:=hid hr
 have TT:=hid (⟨T1,T2,T3⟩:TabA w 2 rootsL/\TabA w 0 gainsL/\TabA w 1 widthL)
 clear hr T1 T2 T3 hc hc2 hvo
 go_enter Tryd.func5,Tryd.ntmps5
 go_wp2_with fail
 refine(KN.out _).mono ?_
 rintro e w1 ⟨gK,gM,rfl,hgM,hgK,hD1,hB1⟩
 go_wp2_with fail
 refine(KN.out _).mono ?_
 rintro e w2 ⟨gK2,gM2,rfl,hgM2,hgK2,hD2,hB2⟩
 have I2:=hid (show Tl w w2 gK gM gK2 gM2 0 0 (.map []) (.map []) (fun _=>0) (fun _=>0) (fun _=>none) (fun _=>none) 0 from
  ⟨.empty (hD1.below hB2),.empty hD2,hB1.trans (hB2.mono hB1.size),hgM,Nat.le_trans hB1.size hgM2,by have:=Dd.lt hD1;omega,fun _ h=>absurd rfl h,fun _ h=>absurd rfl h,fun _ _ h=>absurd rfl h,Nat.le_refl _,Nat.le_refl _,Nat.le_refl _,Nat.le_refl _⟩)
 clear hgM hgK hD1 hB1 hgM2 hgK2 hD2 hB2 KN
 go_wp2_with fail
 go_loopw [7,8] (fun ov iv wr=> ∃(i o n1 n2:Nat) (D D2:DataW Unit) (β β2:Int->Nat) (σ σ2:Ses),ov= .int .i64 o/\iv= .int .i64 i/\o<=i/\i<=n/\i<=30/\Hid (σ vo=σ2 vo)/\Hid (Tl w wr gK gM gK2 gM2 n1 n2 D D2 β β2 σ σ2 i)) (fun _ iv _=>n-(intOf iv).toNat)
 case atStart=>exact⟨0,0,0,0,_,_,_,_,_,_,rfl,rfl,by omega,by omega,by omega,hid rfl,I2⟩
 case round=>
  clear I2
  obtain⟨i,o,n1,n2,D,D2,β,β2,σ,σ2,rfl,rfl,ho,hi,h30,HS,HT⟩:=hrel
  by_cases hlt:i<n
  ·by_cases h3:i<30
   ·obtain⟨ad,q,rfl,hq⟩:=HR.out i hlt
    have HQ:=hid hq
    have HA:=hid (hq.below HT.out.bel)
    clear hq
    have b1:decide ((i:Int)<n)=true:=by simp;omega
    have b2:decide ((i:Int)<30)=true:=by simp;omega
    go_upto_region 7 with(first
     |(refine wpList_loadG rfl 56 (.tmp 26) rfl (ad.add (i*5)) rfl q.cs _ HA.out.s Tryd.underlying56 rfl sizeCall ?_)
     |(refine wpList_store_row rfl 56 (.tmp 9) (.tmp 27) rfl _ q.cs.toArray rfl rfl 56 #[.int .i64 0,.int .i64 0,.bool false,.slice none 0 0,.slice none 0 0] (Blk.new wr 56 #[.int .i64 0,.int .i64 0,.bool false,.slice none 0 0,.slice none 0 0]) sizeCall rfl q.one ?_
       have BB:=below_stored wr (.cells #[.int .i64 0,.int .i64 0,.bool false,.slice none 0 0,.slice none 0 0] 56) q.cs.toArray
       obtain⟨V6,hV⟩: ∃V6,V6=(wr.alloc (.cells #[.int .i64 0,.int .i64 0,.bool false,.slice none 0 0,.slice none 0 0] 56)).setRow wr.heap.size q.cs.toArray:=⟨_,rfl⟩
       have S6:=hid (show Tl w V6 gK gM gK2 gM2 n1 n2 D D2 β β2 σ σ2 i from by rw[hV];exact HT.out.below BB)
       have C6:=hid (show Blk V6 wr.heap.size 56 q.cs.toArray from by rw[hV];exact Blk.setRow_ (Blk.new wr 56 #[.int .i64 0,.int .i64 0,.bool false,.slice none 0 0,.slice none 0 0]) _)
       rw[<-hV]
       clear hV BB))
    obtain⟨gC,hgC⟩: ∃gC,gC=wr.heap.size:=⟨_,rfl⟩
    rw[<-hgC] at C6|-
    clear hgC
    have NI:=hid (show n2<=i/\Maps.size D2<=i/\Maps.size D<=i from⟨HT.out.n2,HT.out.z2,HT.out.z1⟩)
    have LEN:=hid (dsC_len (D:=D) (so:=σ q.v) (fun e m h=>(HT.out.a.yes _ _ _ h).2.2.2.2.2) q.k q.v q.r q.xs q.zs)
    have KC:=hid (fun W (h:Below w.heap.size w W)=>show Calls Tryd.prog 19 #[.agg q.cs.toArray] W (fun e w'=> ∃A3 c3 A4 c4,e= .returned (.agg #[.int .i64 q.k,.int .i64 q.v,.bool q.r,.slice A3 q.xs.length c3,.slice A4 q.zs.length c4])/\Own w' W.heap.size A3 c3 q.xs/\OwnB w' W.heap.size A4 c4 q.zs/\q.zs.length<=c4/\Below W.heap.size W w') from
     topcall_any q.k q.v q.r q.A q.A2 q.xs.length q.c q.zs.length q.c2 q.xs q.zs W ((HQ.out.r.below h).more h.size) rfl ((HQ.out.r2.below h).more h.size) rfl (by have:=HQ.out.l;omega) (by have:=HQ.out.l2;omega))
    have KD:=hid (fun W gK gM n' (D:DataW Unit) β σ A3 c3 A4 c4 (h:Below w.heap.size w W) (hk:Dk W gK gM n' D β σ) (hn:n'<=i) (hO:Rs W W.heap.size A3 q.xs) (hP:Rb W W.heap.size A4 q.zs) (hc:q.zs.length<=c4)=>
     deskDo_any gK gM n' D β σ ⟨q.k,q.v,q.r,A3,q.xs.length,c3,A4,q.zs.length,c4⟩ q.xs q.zs W (TT.out.1.below h) (TT.out.2.1.below h) (TT.out.2.2.below h) hk HQ.out.v (by unfold maxLen;omega) hO rfl HQ.out.l hP rfl hc HQ.out.z)
    obtain⟨cd,bs,ys,so',hds⟩: ∃cd bs ys so',dsC D (σ q.v) q.k q.v q.r q.xs q.zs=(cd,bs,ys,so'):=⟨_,_,_,_,rfl⟩
    rw[hds] at LEN
    have KD1:=hid (fun W A3 c3 A4 c4 (h:Tl w W gK gM gK2 gM2 n1 n2 D D2 β β2 σ σ2 i) (hO:Rs W W.heap.size A3 q.xs) (hP:Rb W W.heap.size A4 q.zs) (hc:q.zs.length<=c4)=>show Calls Tryd.prog 18 #[.pointer (some ⟨gK,0,none⟩),.agg #[.int .i64 q.k,.int .i64 q.v,.bool q.r,.slice A3 q.xs.length c3,.slice A4 q.zs.length c4]] W (fun x w'=> ∃A5 c5 A6 c6 n' D' β',x= .returned (.agg (ansC cd q.v A5 bs.length c5 A6 ys.length c6))/\DkR W w' gK gM n1 n' D D' β β' σ (updS σ q.v so') A5 c5 bs A6 c6 ys) from by
     have h1:=KD.out W gK gM n1 D β σ A3 c3 A4 c4 h.bel h.a h.n1 hO hP hc
     rw[hds] at h1
     exact h1)
    have KD2:=hid (fun(hv:q.v=vo) W A3 c3 A4 c4 (hb:Below w.heap.size w W) (h:Dk W gK2 gM2 n2 D2 β2 σ2) (hO:Rs W W.heap.size A3 q.xs) (hP:Rb W W.heap.size A4 q.zs) (hc:q.zs.length<=c4)=>show Calls Tryd.prog 18 #[.pointer (some ⟨gK2,0,none⟩),.agg #[.int .i64 q.k,.int .i64 q.v,.bool q.r,.slice A3 q.xs.length c3,.slice A4 q.zs.length c4]] W (fun x w'=> ∃A5 c5 A6 c6 n' D' β',x= .returned (.agg (ansC cd q.v A5 bs.length c5 A6 ys.length c6))/\DkR W w' gK2 gM2 n2 n' D2 D' β2 β' σ2 (updS σ2 q.v so') A5 c5 bs A6 c6 ys) from by
     have h1:=KD.out W gK2 gM2 n2 D2 β2 σ2 A3 c3 A4 c4 hb h NI.out.1 hO hP hc
     have h2:σ2 q.v=σ q.v:=by rw[hv,HS.out]
     rw[h2,dsC_same (by have:=NI.out.2.1;omega) (show Maps.size D<32 by have:=NI.out.2.2;omega),hds] at h1
     exact h1)
    have HDS:=hid hds
    clear hds KD
    go_wp2_with (refine wpList_loadC rfl 56 (.tmp 9) rfl gC 56 q.cs.toArray _ rfl C6.out Tryd.underlying56 rfl sizeCall ?_)
    with_reducible refine(KC.out V6 S6.out.bel).mono ?_
    rintro e w8 ⟨A3,d3,A4,d4,rfl,hO,hP,hc4,hB⟩
    have S8:=hid (S6.out.below hB)
    have C8:=hid (Blk.below' C6.out hB)
    have KX:=hid (KD1.out w8 A3 d3 A4 d4 S8.out hO.reads hP.reads hc4)
    clear hO hP hc4 hB S6 C6 HT KD1
    go_wp2_with fail
    with_reducible refine KX.out.mono ?_
    rintro e w9 ⟨A5,c5,A6,c6,n1',D',β',rfl,hr⟩
    have S9:=hid (S8.out.one hr)
    have C9:=hid (hr.blk S8.out.a C8.out (by decide))
    have LT:=hid S8.out.b.low
    have BB:=below_stored w9 (.cells #[.int .i64 0,.int .i64 0,.slice none 0 0,.slice none 0 0] 58) (ansC cd q.v A5 bs.length c5 A6 ys.length c6)
    have S10:=hid (S9.out.below BB)
    have C10:=hid (Blk.below' C9.out BB)
    have Q10:=hid (hr.Q.below BB)
    have Y10:=hid (hr.Y.below BB)
    have Z10:=hid (Blk.new w9 58 #[.int .i64 0,.int .i64 0,.slice none 0 0,.slice none 0 0])
    have A10:=hid (Blk.setRow_ Z10.out (ansC cd q.v A5 bs.length c5 A6 ys.length c6))
    obtain⟨V10,hV10⟩: ∃V10,V10=(w9.alloc (.cells #[.int .i64 0,.int .i64 0,.slice none 0 0,.slice none 0 0] 58)).setRow w9.heap.size (ansC cd q.v A5 bs.length c5 A6 ys.length c6):=⟨_,rfl⟩
    rw[<-hV10] at S10 C10 Q10 Y10 A10
    have HV10:=hid hV10
    clear hr BB hV10 KX S8 C8 S9 C9
    have cK:=(ck_k C10.out).1
    have cV:=(ck_k C10.out).2
    have cA:V10.cell? ⟨w9.heap.size,0,none⟩=some (.int .i64 cd):=Blk.cell A10.out 0
    go_upto_region 8 with(refine wpList_storeC rfl 58 (.tmp 10) (.tmp 31) rfl w9.heap.size 58 _ (ansC cd q.v A5 bs.length c5 A6 ys.length c6) rfl rfl Z10.out sizeAns rfl (one_ans _ _ _ _ _ _ _ _) ?_;rw[<-HV10.out];clear HV10)
    by_cases hk:q.k=1
    ·have hkb:(q.k==1)=true:=by simp[hk]
     clear hk
     by_cases hc:cd=0
     ·have hcb:(cd==0)=true:=by simp[hc]
      clear hc
      have hw:IntKind.i64.wrap ((o:Int)+1)=(o:Int)+1:=by rw[IntKind.wrap_i64];omega
      obtain⟨o',ho2,ho'⟩: ∃o':Nat,(o:Int)+1=o'/\o'<=i+1:=⟨o+1,by omega,by omega⟩
      rw[ho2] at hw
      go_upto_region 10 with fail
      clear cK cA
      by_cases hv:q.v=vo
      ·have hvb:(q.v !=vo)=false:=by simp[hv]
       have hvb2:(q.v==vo)=true:=by simp[hv]
       have HV:=hid hv
       clear hv
       go_wp2_with (refine wpList_loadC rfl 56 (.tmp 9) rfl gC 56 q.cs.toArray _ rfl C10.out Tryd.underlying56 rfl sizeCall ?_)
       with_reducible refine(KC.out V10 S10.out.bel).mono ?_
       rintro e w11 ⟨A7,d7,A8,d8,rfl,hO,hP,hc4,hB⟩
       have S11:=hid (S10.out.below hB)
       have A11:=hid (Blk.below' A10.out hB)
       have Q11:=hid (Q10.out.below hB)
       have Y11:=hid (Y10.out.below hB)
       have KX:=hid (KD2.out HV.out w11 A7 d7 A8 d8 S11.out.bel S11.out.b hO.reads hP.reads hc4)
       clear hO hP hc4 hB cV C10 KD2 KC
       go_wp2_with fail
       with_reducible refine KX.out.mono ?_
       rintro e w12 ⟨A9,c9,AA,cc,n2',D2',β2',rfl,hr⟩
       have S12:=hid (S11.out.two NI.out.1 NI.out.2.1 hr)
       have BB:=below_stored w12 (.cells #[.int .i64 0,.int .i64 0,.slice none 0 0,.slice none 0 0] 58) (ansC cd q.v A9 bs.length c9 AA ys.length cc)
       have S13:=hid (S12.out.below BB)
       have A13:=hid (Blk.below' (hr.blk S11.out.b A11.out (by decide)) BB)
       have Q13:=hid ((hr.ownB Q11.out LT.out.1 LT.out.2).below BB)
       have Y13:=hid ((hr.own Y11.out LT.out.1 LT.out.2).below BB)
       have R13:=hid (hr.Q.below BB)
       have X13:=hid (hr.Y.below BB)
       have Z13:=hid (Blk.new w12 58 #[.int .i64 0,.int .i64 0,.slice none 0 0,.slice none 0 0])
       have B13:=hid (Blk.setRow_ Z13.out (ansC cd q.v A9 bs.length c9 AA ys.length cc))
       obtain⟨V13,hV13⟩: ∃V13,V13=(w12.alloc (.cells #[.int .i64 0,.int .i64 0,.slice none 0 0,.slice none 0 0] 58)).setRow w12.heap.size (ansC cd q.v A9 bs.length c9 AA ys.length cc):=⟨_,rfl⟩
       rw[<-hV13] at S13 A13 Q13 Y13 R13 X13 B13
       have HV13:=hid hV13
       have KSa:=hid (sameAns_yes cd q.v A5 A6 A9 AA bs.length c5 ys.length c6 c9 cc bs ys V13 Q13.out.reads Y13.out.reads R13.out.reads X13.out.reads rfl rfl LEN.out)
       clear hr BB hV13 KX S11 A11 Q11 Y11 S12
       go_wp2_with (first
        |(refine wpList_storeC rfl 58 (.tmp 11) (.tmp 49) rfl w12.heap.size 58 _ (ansC cd q.v A9 bs.length c9 AA ys.length cc) rfl rfl Z13.out sizeAns rfl (one_ans _ _ _ _ _ _ _ _) ?_;rw[<-HV13.out];clear HV13)
        |(refine wpList_loadC rfl 58 (.tmp 10) rfl w9.heap.size 58 (ansC cd q.v A5 bs.length c5 A6 ys.length c6) _ rfl A13.out Tryd.underlying58 rfl sizeAns ?_)
        |(refine wpList_loadC rfl 58 (.tmp 11) rfl w12.heap.size 58 (ansC cd q.v A9 bs.length c9 AA ys.length cc) _ rfl B13.out Tryd.underlying58 rfl sizeAns ?_))
       with_reducible refine KSa.out.mono ?_
       rintro e w14 ⟨rfl,hB⟩
       have S14:=hid (S13.out.below hB)
       have HS2:=hid (show updS σ q.v so' vo=updS σ2 q.v so' vo from by rw[HV.out,updS_at,updS_at])
       clear hB KSa S13 A13 Q13 Y13 R13 X13 B13
       go_wp2_with fail
       go_roundw
       case rel=>exact⟨i+1,o',n1',n2',D',D2',β',β2',_,_,rfl,by go_num,ho',by omega,by omega,HS2,S14⟩
       case measure=>simp[intOf]<;>omega
      ·have hvb:(q.v !=vo)=true:=by simp[hv]
       have hvb2:(q.v==vo)=false:=by simp[hv]
       have HS2:=hid (show updS σ q.v so' vo=σ2 vo from by rw[updS_ne _ _ (fun x=>hv x.symm)];exact HS.out)
       go_wp2_with fail
       go_roundw
       case rel=>exact⟨i+1,o',n1',n2,D',D2,β',β2,_,_,rfl,by go_num,ho',by omega,by omega,HS2,S10⟩
       case measure=>simp[intOf]<;>omega
     ·have hcb:(cd==0)=false:=by simpa using hc
      obtain⟨o',ho2,ho'⟩: ∃o':Nat,o=o'/\o'<=i+1:=⟨o,rfl,by omega⟩
      rw[ho2]
      go_upto_region 10 with fail
      clear cK cA
      by_cases hv:q.v=vo
      ·have hvb:(q.v !=vo)=false:=by simp[hv]
       have hvb2:(q.v==vo)=true:=by simp[hv]
       have HV:=hid hv
       clear hv
       go_wp2_with (refine wpList_loadC rfl 56 (.tmp 9) rfl gC 56 q.cs.toArray _ rfl C10.out Tryd.underlying56 rfl sizeCall ?_)
       with_reducible refine(KC.out V10 S10.out.bel).mono ?_
       rintro e w11 ⟨A7,d7,A8,d8,rfl,hO,hP,hc4,hB⟩
       have S11:=hid (S10.out.below hB)
       have A11:=hid (Blk.below' A10.out hB)
       have Q11:=hid (Q10.out.below hB)
       have Y11:=hid (Y10.out.below hB)
       have KX:=hid (KD2.out HV.out w11 A7 d7 A8 d8 S11.out.bel S11.out.b hO.reads hP.reads hc4)
       clear hO hP hc4 hB cV C10 KD2 KC
       go_wp2_with fail
       with_reducible refine KX.out.mono ?_
       rintro e w12 ⟨A9,c9,AA,cc,n2',D2',β2',rfl,hr⟩
       have S12:=hid (S11.out.two NI.out.1 NI.out.2.1 hr)
       have BB:=below_stored w12 (.cells #[.int .i64 0,.int .i64 0,.slice none 0 0,.slice none 0 0] 58) (ansC cd q.v A9 bs.length c9 AA ys.length cc)
       have S13:=hid (S12.out.below BB)
       have A13:=hid (Blk.below' (hr.blk S11.out.b A11.out (by decide)) BB)
       have Q13:=hid ((hr.ownB Q11.out LT.out.1 LT.out.2).below BB)
       have Y13:=hid ((hr.own Y11.out LT.out.1 LT.out.2).below BB)
       have R13:=hid (hr.Q.below BB)
       have X13:=hid (hr.Y.below BB)
       have Z13:=hid (Blk.new w12 58 #[.int .i64 0,.int .i64 0,.slice none 0 0,.slice none 0 0])
       have B13:=hid (Blk.setRow_ Z13.out (ansC cd q.v A9 bs.length c9 AA ys.length cc))
       obtain⟨V13,hV13⟩: ∃V13,V13=(w12.alloc (.cells #[.int .i64 0,.int .i64 0,.slice none 0 0,.slice none 0 0] 58)).setRow w12.heap.size (ansC cd q.v A9 bs.length c9 AA ys.length cc):=⟨_,rfl⟩
       rw[<-hV13] at S13 A13 Q13 Y13 R13 X13 B13
       have HV13:=hid hV13
       have KSa:=hid (sameAns_yes cd q.v A5 A6 A9 AA bs.length c5 ys.length c6 c9 cc bs ys V13 Q13.out.reads Y13.out.reads R13.out.reads X13.out.reads rfl rfl LEN.out)
       clear hr BB hV13 KX S11 A11 Q11 Y11 S12
       go_wp2_with (first
        |(refine wpList_storeC rfl 58 (.tmp 11) (.tmp 49) rfl w12.heap.size 58 _ (ansC cd q.v A9 bs.length c9 AA ys.length cc) rfl rfl Z13.out sizeAns rfl (one_ans _ _ _ _ _ _ _ _) ?_;rw[<-HV13.out];clear HV13)
        |(refine wpList_loadC rfl 58 (.tmp 10) rfl w9.heap.size 58 (ansC cd q.v A5 bs.length c5 A6 ys.length c6) _ rfl A13.out Tryd.underlying58 rfl sizeAns ?_)
        |(refine wpList_loadC rfl 58 (.tmp 11) rfl w12.heap.size 58 (ansC cd q.v A9 bs.length c9 AA ys.length cc) _ rfl B13.out Tryd.underlying58 rfl sizeAns ?_))
       with_reducible refine KSa.out.mono ?_
       rintro e w14 ⟨rfl,hB⟩
       have S14:=hid (S13.out.below hB)
       have HS2:=hid (show updS σ q.v so' vo=updS σ2 q.v so' vo from by rw[HV.out,updS_at,updS_at])
       clear hB KSa S13 A13 Q13 Y13 R13 X13 B13
       go_wp2_with fail
       go_roundw
       case rel=>exact⟨i+1,o',n1',n2',D',D2',β',β2',_,_,rfl,by go_num,ho',by omega,by omega,HS2,S14⟩
       case measure=>simp[intOf]<;>omega
      ·have hvb:(q.v !=vo)=true:=by simp[hv]
       have hvb2:(q.v==vo)=false:=by simp[hv]
       have HS2:=hid (show updS σ q.v so' vo=σ2 vo from by rw[updS_ne _ _ (fun x=>hv x.symm)];exact HS.out)
       go_wp2_with fail
       go_roundw
       case rel=>exact⟨i+1,o',n1',n2,D',D2,β',β2,_,_,rfl,by go_num,ho',by omega,by omega,HS2,S10⟩
       case measure=>simp[intOf]<;>omega
    ·have hkb:(q.k==1)=false:=by simpa using hk
     obtain⟨o',ho2,ho'⟩: ∃o':Nat,o=o'/\o'<=i+1:=⟨o,rfl,by omega⟩
     rw[ho2]
     go_upto_region 10 with fail
     clear cK cA
     by_cases hv:q.v=vo
     ·have hvb:(q.v !=vo)=false:=by simp[hv]
      have hvb2:(q.v==vo)=true:=by simp[hv]
      have HV:=hid hv
      clear hv
      go_wp2_with (refine wpList_loadC rfl 56 (.tmp 9) rfl gC 56 q.cs.toArray _ rfl C10.out Tryd.underlying56 rfl sizeCall ?_)
      with_reducible refine(KC.out V10 S10.out.bel).mono ?_
      rintro e w11 ⟨A7,d7,A8,d8,rfl,hO,hP,hc4,hB⟩
      have S11:=hid (S10.out.below hB)
      have A11:=hid (Blk.below' A10.out hB)
      have Q11:=hid (Q10.out.below hB)
      have Y11:=hid (Y10.out.below hB)
      have KX:=hid (KD2.out HV.out w11 A7 d7 A8 d8 S11.out.bel S11.out.b hO.reads hP.reads hc4)
      clear hO hP hc4 hB cV C10 KD2 KC
      go_wp2_with fail
      with_reducible refine KX.out.mono ?_
      rintro e w12 ⟨A9,c9,AA,cc,n2',D2',β2',rfl,hr⟩
      have S12:=hid (S11.out.two NI.out.1 NI.out.2.1 hr)
      have BB:=below_stored w12 (.cells #[.int .i64 0,.int .i64 0,.slice none 0 0,.slice none 0 0] 58) (ansC cd q.v A9 bs.length c9 AA ys.length cc)
      have S13:=hid (S12.out.below BB)
      have A13:=hid (Blk.below' (hr.blk S11.out.b A11.out (by decide)) BB)
      have Q13:=hid ((hr.ownB Q11.out LT.out.1 LT.out.2).below BB)
      have Y13:=hid ((hr.own Y11.out LT.out.1 LT.out.2).below BB)
      have R13:=hid (hr.Q.below BB)
      have X13:=hid (hr.Y.below BB)
      have Z13:=hid (Blk.new w12 58 #[.int .i64 0,.int .i64 0,.slice none 0 0,.slice none 0 0])
      have B13:=hid (Blk.setRow_ Z13.out (ansC cd q.v A9 bs.length c9 AA ys.length cc))
      obtain⟨V13,hV13⟩: ∃V13,V13=(w12.alloc (.cells #[.int .i64 0,.int .i64 0,.slice none 0 0,.slice none 0 0] 58)).setRow w12.heap.size (ansC cd q.v A9 bs.length c9 AA ys.length cc):=⟨_,rfl⟩
      rw[<-hV13] at S13 A13 Q13 Y13 R13 X13 B13
      have HV13:=hid hV13
      have KSa:=hid (sameAns_yes cd q.v A5 A6 A9 AA bs.length c5 ys.length c6 c9 cc bs ys V13 Q13.out.reads Y13.out.reads R13.out.reads X13.out.reads rfl rfl LEN.out)
      clear hr BB hV13 KX S11 A11 Q11 Y11 S12
      go_wp2_with (first
       |(refine wpList_storeC rfl 58 (.tmp 11) (.tmp 49) rfl w12.heap.size 58 _ (ansC cd q.v A9 bs.length c9 AA ys.length cc) rfl rfl Z13.out sizeAns rfl (one_ans _ _ _ _ _ _ _ _) ?_;rw[<-HV13.out];clear HV13)
       |(refine wpList_loadC rfl 58 (.tmp 10) rfl w9.heap.size 58 (ansC cd q.v A5 bs.length c5 A6 ys.length c6) _ rfl A13.out Tryd.underlying58 rfl sizeAns ?_)
       |(refine wpList_loadC rfl 58 (.tmp 11) rfl w12.heap.size 58 (ansC cd q.v A9 bs.length c9 AA ys.length cc) _ rfl B13.out Tryd.underlying58 rfl sizeAns ?_))
      with_reducible refine KSa.out.mono ?_
      rintro e w14 ⟨rfl,hB⟩
      have S14:=hid (S13.out.below hB)
      have HS2:=hid (show updS σ q.v so' vo=updS σ2 q.v so' vo from by rw[HV.out,updS_at,updS_at])
      clear hB KSa S13 A13 Q13 Y13 R13 X13 B13
      go_wp2_with fail
      go_roundw
      case rel=>exact⟨i+1,o',n1',n2',D',D2',β',β2',_,_,rfl,by go_num,ho',by omega,by omega,HS2,S14⟩
      case measure=>simp[intOf]<;>omega
     ·have hvb:(q.v !=vo)=true:=by simp[hv]
      have hvb2:(q.v==vo)=false:=by simp[hv]
      have HS2:=hid (show updS σ q.v so' vo=σ2 vo from by rw[updS_ne _ _ (fun x=>hv x.symm)];exact HS.out)
      go_wp2_with fail
      go_roundw
      case rel=>exact⟨i+1,o',n1',n2,D',D2,β',β2,_,_,rfl,by go_num,ho',by omega,by omega,HS2,S10⟩
      case measure=>simp[intOf]<;>omega
   ·obtain rfl:i=30:=by omega
    have b1:decide (((30:Nat):Int)<n)=true:=by simp;omega
    have b2:decide (((30:Nat):Int)<30)=false:=by simp
    go_wp2_with fail
    refine(topalive_any wr (TT.out.1.below HT.out.bel) (TT.out.2.1.below HT.out.bel) (TT.out.2.2.below HT.out.bel)).mono ?_
    rintro e w4 ⟨rfl,hB⟩
    have I4:=hid (HT.out.below hB)
    have ho30:decide ((o:Int)<=30)=true:=by simp;omega
    have KK:=hid (deskDo_kind gK gM n1 D ⟨9,0,false,none,0,0,none,0,0⟩ w4 I4.out.a.d (.inr (by show(5:Int)<9;omega)))
    have hfld: ∀(w:World),(Instr.field 58 (.agg (ansC 4 0 none 0 0 none 0 0)) 0).run Tryd.prog w= .ok (.int .i64 4) w:=fun _=>by kernel_rfl
    clear hB HT
    go_wp2_with fail
    refine KK.out.mono ?_
    rintro x w5 ⟨rfl,_,hb⟩
    have BF:=hid (I4.out.bel.trans (hb.mono I4.out.bel.size))
    clear hb KK
    go_wp2_with fail
    go_ret
    exact⟨rfl,BF.out⟩
  ·obtain rfl:i=n:=by omega
   have b1:decide ((i:Int)<i)=false:=by simp
   go_wp2_with fail
   refine(topalive_any wr (TT.out.1.below HT.out.bel) (TT.out.2.1.below HT.out.bel) (TT.out.2.2.below HT.out.bel)).mono ?_
   rintro e w4 ⟨rfl,hB⟩
   have I4:=hid (HT.out.below hB)
   have ho30:decide ((o:Int)<=30)=true:=by simp;omega
   have KK:=hid (deskDo_kind gK gM n1 D ⟨9,0,false,none,0,0,none,0,0⟩ w4 I4.out.a.d (.inr (by show(5:Int)<9;omega)))
   have hfld: ∀(w:World),(Instr.field 58 (.agg (ansC 4 0 none 0 0 none 0 0)) 0).run Tryd.prog w= .ok (.int .i64 4) w:=fun _=>by kernel_rfl
   clear hB HT
   go_wp2_with fail
   refine KK.out.mono ?_
   rintro x w5 ⟨rfl,_,hb⟩
   have BF:=hid (I4.out.bel.trans (hb.mono I4.out.bel.size))
   clear hb KK
   go_wp2_with fail
   go_ret
   exact⟨rfl,BF.out⟩
end Go.Proofs.YthoiikkjjaldnaaDoor
