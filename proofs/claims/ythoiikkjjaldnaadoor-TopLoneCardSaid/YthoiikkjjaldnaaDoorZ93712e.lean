/- Texts that the law rests on, laid together: DkD. -/
import Derived.Test.YthoiikkjjaldnaaDoorZ580eeb
set_option maxHeartbeats 4000000
namespace Go.Proofs.YthoiikkjjaldnaaDoor
set_option linter.unusedVariables false
set_option linter.unusedSimpArgs false
set_option maxRecDepth 100000
open Go.RowKit
theorem deskDo_dec (gK gM n:Nat) (D:DataW Unit) (g:Nat) (e:En) (m:Mm) (q:Cq) (xs:List Int) (w:World) (T1:TabA w 2 rootsL) (T2:TabA w 0 gainsL) (T3:TabA w 1 widthL)
 (hD:Dd w gK gM n D) (hL:LB w g e m) (ke:e.ok) (km:m.ok) (hv: -9223372036854775808<=q.v/\q.v<=9223372036854775807)
 (hhas:Maps.has D (keyL q.v)=true) (hat:D.atKey (keyL q.v) .nil= .lit (.int .i64 (g:Nat))) (hk:q.k=3) (hgl:g<w.heap.size) (hgd:gK<w.heap.size/\gM<w.heap.size)
 (hr:Rb w w.heap.size q.A2 xs) (hn:xs.length=q.n2) (hc:q.n2<=q.c2) (hx:Byts xs) (h0:deE m xs=0):
 Calls Tryd.prog 18 #[.pointer (some ⟨gK,0,none⟩),.agg #[.int .i64 q.k,.int .i64 q.v,.bool q.r,.slice q.A q.n q.c,.slice q.A2 q.n2 q.c2]] w (fun x w'=> ∃A4 c4,x= .returned (.agg (ansC 0 q.v none 0 0 A4 (deY m xs).length c4))/\Own w' w.heap.size A4 c4 (deY m xs)/\Dd w' gK gM n D/\LB w' g e (deM m xs)/\w.grownBy w' (some g)):=by
 have K2:=hid (deM_ok km xs)
 have HGL:=hid hgl
 have HGD:=hid hgd
 have KEn:=hid (fun W (h:Dj w W gK gM n D g e m q)=>show Calls Tryd.prog 12 #[.agg m.cs.toArray,.slice q.A2 q.n2 q.c2] W (fun x w'=> ∃A4 c4,x= .returned (.tuple #[.agg (deM m xs).ag,.slice A4 (deY m xs).length c4,.int .i64 0])/\Own w' W.heap.size A4 c4 (deY m xs)/\Below W.heap.size W w') from by
  have h1:=decode_any m km q.A2 q.c2 q.n2 xs W (T1.below h.bel) (T2.below h.bel) (T3.below h.bel) ((hr.below h.bel).more h.bel.size) hn hc hx
  unfold NewM at h1
  rw[h0] at h1
  exact h1)
 clear T1 T2 T3 hr hn hc hx h0
 obtain⟨m2,hm2⟩: ∃m2,m2=deM m xs:=⟨_,rfl⟩
 obtain⟨ys,hys⟩: ∃ys,ys=deY m xs:=⟨_,rfl⟩
 rw[<-hm2] at K2|-
 rw[<-hys]
 rw[<-hm2,<-hys] at KEn
 clear hm2 hys
 obtain⟨ly,hly⟩: ∃ly,ly=ys.length:=⟨_,rfl⟩
 rw[<-hly] at KEn|-
 clear hly
 obtain⟨er,her⟩: ∃er:Int,er=0:=⟨_,rfl⟩
 rw[<-her] at KEn
 have HER:=hid her
 clear her
 have hR:=results_any1 (fn:=Tryd.f18) (p:=4) (ty:=58) rfl
 have S0:=hid (Dj.start w q hD hL)
 obtain⟨V0,hV0⟩: ∃V0,V0=(((w.alloc (.cells #[.int .i64 q.k,.int .i64 q.v,.bool q.r,.slice q.A q.n q.c,.slice q.A2 q.n2 q.c2] 56)).alloc (.cells #[.int .i64 0,.int .i64 0,.slice none 0 0,.slice none 0 0] 58)).alloc (.cells #[.int .i64 0,.int .i64 q.v,.slice none 0 0,.slice none 0 0] 58)):=⟨_,rfl⟩
 rw[<-hV0] at S0
 have HV0:=hV0.symm
 have KE:=hid ke
 have KM:=hid km
 have hrun:=(S0.out.D.below ((Below.refl _ _).drew)).M.hit hv hhas hat
 have k1:=S0.out.c0
 have k2:=S0.out.c1
 have k3:V0.cell? ⟨gK,0,none⟩=some (.map (some gM)):=Blk.cell S0.out.D.K 0
 clear hV0 hD hL ke km
 rw[hk] at HV0 k1|-
 have HVx:=hid HV0
 clear HV0
 go_enter Tryd.func18,Tryd.ntmps18
 go_upto_region 8 with fail
 rw[HVx.out]
 go_region
 have S1:=hid (S0.out.below ((Below.refl _ _).drew))
 obtain⟨V1,hV1⟩: ∃V1,V1=World.drew V0:=⟨_,rfl⟩
 rw[<-hV1] at S1|-
 clear k1 k2 k3 hrun hV1 S0
 have k1:=S1.out.c0
 rw[hk] at k1
 go_upto_region 22 with fail
 go_cut [12,13,14] (fun s7 s9 s10 wx=> ∃(gx:Nat) (A4:Option Addr) (c4:Nat),s7= .pointer (some ⟨gx,0,none⟩)/\s9= .slice A4 ly c4/\s10= .int .i64 er/\Hid (w.heap.size+3<=gx)/\Hid (Dj w wx gK gM n D g e m q)/\Hid (MB wx gx m2)/\Hid (Own wx (w.heap.size+3) A4 c4 ys))
 case first=>
  have S0:=S1
  refine wp_region_held (S:=fun W=>Dj w W gK gM n D g e m q) (by kernel_rfl) ?_
  have L1:=hid (Dj.below S0.out ((Below.refl _ _).drew))
  change wpAnyH _ _ _ _ _ _ _ _ (World.drew _)
  obtain⟨W1,hW1⟩: ∃W1,W1=World.drew V1:=⟨_,rfl⟩
  rw[<-hW1] at L1|-
  clear hW1
  refine wpAnyH_take (i:=0) (v:= .pointer (some ⟨g,0,none⟩)) rfl (by kernel_rfl) (by kernel_rfl) (by kernel_rfl) (fun _ _ _ h=>h) (.inl ⟨by rfl,fun W hW=>by go_simp⟩) L1.out ?_
  refine wpAnyH_take (i:=1) (v:= .pointer (some ⟨g,0,none⟩)) rfl (by kernel_rfl) (by kernel_rfl) (by kernel_rfl) (fun _ _ _ h=>h) (.inl ⟨by rfl,fun W hW=>by go_simp⟩) L1.out ?_
  refine wpAnyH_take (i:=2) (v:= .pointer (some ⟨g,226,none⟩)) rfl (by kernel_rfl) (by kernel_rfl) (by kernel_rfl) (fun _ _ _ h=>h) (.inl ⟨by rfl,fun W hW=>by go_simp⟩) L1.out ?_
  refine wpAnyH_take (i:=3) (v:= .agg m.cs.toArray) rfl (by kernel_rfl) (by kernel_rfl) (by kernel_rfl) (fun _ _ _ h=>h) (yieldsIf_load_mid (by rfl) 30 (.tmp 91) rfl g 226 rfl m.cs _ (fun W hW=>LB.M hW.L KE.out) Tryd.underlying30 rfl (by rw[sizeM,m.len KM.out])) L1.out ?_
  refine wpAnyH_take (i:=4) (v:= .pointer (some ⟨w.heap.size,4,none⟩)) rfl (by kernel_rfl) (by kernel_rfl) (by kernel_rfl) (fun _ _ _ h=>h) (.inl ⟨by rfl,fun W hW=>by go_simp⟩) L1.out ?_
  refine wpAnyH_take (i:=5) (v:= .slice q.A2 q.n2 q.c2) rfl (by kernel_rfl) (by kernel_rfl) (by kernel_rfl) (fun _ _ _ h=>h) (.inl ⟨by rfl,fun W hW=>by have h:=hW.c4;go_simp⟩) L1.out ?_
  refine wpAnyH_ready (rs:=[6,11]) (by kernel_rfl) (by simp) (AllReadyH.cons rfl (fun K hK=>?_) (AllReadyH.cons rfl (fun K hK=>?_) AllReadyH.nil))
  ·
   go_simp
   with_reducible refine(KEn.out W1 L1.out).mono ?_
   rintro e W2 ⟨A4,c4,rfl,hR,hB⟩
   have HB:=hid (show w.heap.size+3<=W1.heap.size from L1.out.lt)
   have L2:=hid (Dj.below L1.out hB)
   have Q2:=hid hB
   have R2:=hid hR
   clear hR hB
   go_simp
   refine hK.out _ _ L2.out (fun _=>?_)
   clear hK K
   refine wpAnyH_take (i:=7) (v:= .tuple #[.agg m2.ag,.slice A4 ly c4,.int .i64 er]) rfl (by kernel_rfl) (by kernel_rfl) (by kernel_rfl) (fun _ _ _ h=>h) (.inl ⟨by rfl,fun W hW=>by(first|rfl|go_simp)⟩) L2.out ?_
   refine wpAnyH_take (i:=8) (v:= .agg m2.ag) rfl (by kernel_rfl) (by kernel_rfl) (by kernel_rfl) (fun _ _ _ h=>h) (.inl ⟨by rfl,fun W hW=>by(first|rfl|go_simp)⟩) L2.out ?_
   refine wpAnyH_take (i:=9) (v:= .slice A4 ly c4) rfl (by kernel_rfl) (by kernel_rfl) (by kernel_rfl) (fun _ _ _ h=>h) (.inl ⟨by rfl,fun W hW=>by(first|rfl|go_simp)⟩) L2.out ?_
   refine wpAnyH_take (i:=10) (v:= .int .i64 er) rfl (by kernel_rfl) (by kernel_rfl) (by kernel_rfl) (fun _ _ _ h=>h) (.inl ⟨by rfl,fun W hW=>by(first|rfl|go_simp)⟩) L2.out ?_
   refine wpAnyH_ready (rs:=[11]) (by kernel_rfl) (by simp) (AllReadyH.cons rfl (fun K hK=>?_) AllReadyH.nil)
   go_simp
   have L3:=hid (Dj.below L2.out ((Below.refl _ _).alloc (Nat.le_refl _) (.cells Tryd.zeroCells30 30)))
   have Z3:=hid (newzero W2)
   obtain⟨W3,hW3⟩: ∃W3,W3=W2.alloc (.cells Tryd.zeroCells30 30):=⟨_,rfl⟩
   have Q3:=hid (show Below W2.heap.size W2 W3 from by rw[hW3];exact(Below.refl _ _).alloc (Nat.le_refl _) _)
   rw[<-hW3] at L3 Z3|-
   clear hW3
   obtain⟨gx,hgx⟩: ∃gx,gx=W2.heap.size:=⟨_,rfl⟩
   have GX:=hid (show w.heap.size+3<=gx from by rw[hgx];exact L2.out.lt)
   have GE:=hid hgx
   rw[<-hgx] at Z3|-
   clear hgx
   have R3:=hid (R2.out.below Q3.out)
   refine hK.out _ _ L3.out (fun _=>?_)
   clear hK K
   refine wpAnyH_ready (rs:=[12]) (by kernel_rfl) (by simp) (AllReadyH.cons rfl (fun K hK=>?_) AllReadyH.nil)
   rw[if_pos (by rfl)]
   simp only[Act.put,List.setIfInBounds_toArray,List.set_cons_zero,List.set_cons_succ,List.getElem_toArray,List.getElem_cons_succ,List.getElem_cons_zero]
   refine wp_store_mid 30 (.tmp 12) (.tmp 96) rfl gx 0 m2.ag rfl rfl (by rw[Mm.size _ K2.out];exact MB.there Z3.out zeroM_ok) (by rw[Mm.size _ K2.out];exact sizeM) (Mm.one _) ?_
   have LF:=hid (Dj.far L3.out HGL.out HGD.out GX.out (m2.ag.toList) 0)
   have EF:=hid (mb_setAll Z3.out zeroM_ok K2.out)
   have RF:=hid (R2.out.below (below_sc (b:=gx) (by rw[GE.out];exact Nat.le_refl _) m2.ag.toList 0 _ Q3.out))
   obtain⟨WF,hWF⟩: ∃WF,WF=W3.setCells gx 0 m2.ag.toList:=⟨_,rfl⟩
   have EF:=hid (show MB (W3.setCells gx 0 m2.ag.toList) gx m2 from EF.out)
   rw[<-hWF] at LF EF RF|-
   clear hWF
   refine hK.out _ _ LF.out (fun _=>?_)
   clear hK K
   refine wpAnyH_take (i:=13) (v:= .slice A4 ly c4) rfl (by kernel_rfl) (by kernel_rfl) (by kernel_rfl) (fun _ _ _ h=>h) (.inl ⟨by rfl,fun W hW=>by(first|rfl|go_simp)⟩) LF.out ?_
   refine wpAnyH_take (i:=14) (v:= .int .i64 er) rfl (by kernel_rfl) (by kernel_rfl) (by kernel_rfl) (fun _ _ _ h=>h) (.inl ⟨by rfl,fun W hW=>by(first|rfl|go_simp)⟩) LF.out ?_
   refine wpAnyH_done (by kernel_rfl) ?_ _
   go_wp2_with fail
   go_meet
   exact⟨gx,A4,c4,rfl,rfl,rfl,GX,LF,EF,hid (RF.out.more HB.out)⟩
  ·
   go_simp
   have L2:=hid (Dj.below L1.out ((Below.refl _ _).alloc (Nat.le_refl _) (.cells Tryd.zeroCells30 30)))
   have Z2:=hid (newzero W1)
   obtain⟨W2,hW2⟩: ∃W2,W2=W1.alloc (.cells Tryd.zeroCells30 30):=⟨_,rfl⟩
   have Q2:=hid (show Below W1.heap.size W1 W2 from by rw[hW2];exact(Below.refl _ _).alloc (Nat.le_refl _) _)
   rw[<-hW2] at L2 Z2|-
   clear hW2
   obtain⟨gx,hgx⟩: ∃gx,gx=W1.heap.size:=⟨_,rfl⟩
   have GX:=hid (show w.heap.size+3<=gx from by rw[hgx];exact L1.out.lt)
   have GE:=hid hgx
   rw[<-hgx] at Z2|-
   clear hgx
   refine hK.out _ _ L2.out (fun _=>?_)
   clear hK K
   refine wpAnyH_ready (rs:=[6]) (by kernel_rfl) (by simp) (AllReadyH.cons rfl (fun K hK=>?_) AllReadyH.nil)
   go_simp
   with_reducible refine(KEn.out W2 L2.out).mono ?_
   rintro e W3 ⟨A4,c4,rfl,hR,hB⟩
   have HB:=hid (show w.heap.size+3<=W2.heap.size from L2.out.lt)
   have GB:=hid (show gx<W2.heap.size from Blk.lt Z2.out)
   have L3:=hid (Dj.below L2.out hB)
   have Q3:=hid hB
   have Z3:=hid (Blk.below' Z2.out Q3.out)
   have R3:=hid hR
   clear hR hB
   go_simp
   refine hK.out _ _ L3.out (fun _=>?_)
   clear hK K
   refine wpAnyH_take (i:=7) (v:= .tuple #[.agg m2.ag,.slice A4 ly c4,.int .i64 er]) rfl (by kernel_rfl) (by kernel_rfl) (by kernel_rfl) (fun _ _ _ h=>h) (.inl ⟨by rfl,fun W hW=>by(first|rfl|go_simp)⟩) L3.out ?_
   refine wpAnyH_take (i:=8) (v:= .agg m2.ag) rfl (by kernel_rfl) (by kernel_rfl) (by kernel_rfl) (fun _ _ _ h=>h) (.inl ⟨by rfl,fun W hW=>by(first|rfl|go_simp)⟩) L3.out ?_
   refine wpAnyH_take (i:=9) (v:= .slice A4 ly c4) rfl (by kernel_rfl) (by kernel_rfl) (by kernel_rfl) (fun _ _ _ h=>h) (.inl ⟨by rfl,fun W hW=>by(first|rfl|go_simp)⟩) L3.out ?_
   refine wpAnyH_take (i:=10) (v:= .int .i64 er) rfl (by kernel_rfl) (by kernel_rfl) (by kernel_rfl) (fun _ _ _ h=>h) (.inl ⟨by rfl,fun W hW=>by(first|rfl|go_simp)⟩) L3.out ?_
   refine wpAnyH_ready (rs:=[12]) (by kernel_rfl) (by simp) (AllReadyH.cons rfl (fun K hK=>?_) AllReadyH.nil)
   rw[if_pos (by rfl)]
   simp only[Act.put,List.setIfInBounds_toArray,List.set_cons_zero,List.set_cons_succ,List.getElem_toArray,List.getElem_cons_succ,List.getElem_cons_zero]
   refine wp_store_mid 30 (.tmp 12) (.tmp 96) rfl gx 0 m2.ag rfl rfl (by rw[Mm.size _ K2.out];exact MB.there Z3.out zeroM_ok) (by rw[Mm.size _ K2.out];exact sizeM) (Mm.one _) ?_
   have LF:=hid (Dj.far L3.out HGL.out HGD.out GX.out (m2.ag.toList) 0)
   have EF:=hid (mb_setAll Z3.out zeroM_ok K2.out)
   have RF:=hid (Own.setCs (g:=gx) GB.out m2.ag.toList 0 _ R3.out)
   obtain⟨WF,hWF⟩: ∃WF,WF=W3.setCells gx 0 m2.ag.toList:=⟨_,rfl⟩
   have EF:=hid (show MB (W3.setCells gx 0 m2.ag.toList) gx m2 from EF.out)
   rw[<-hWF] at LF EF RF|-
   clear hWF
   refine hK.out _ _ LF.out (fun _=>?_)
   clear hK K
   refine wpAnyH_take (i:=13) (v:= .slice A4 ly c4) rfl (by kernel_rfl) (by kernel_rfl) (by kernel_rfl) (fun _ _ _ h=>h) (.inl ⟨by rfl,fun W hW=>by(first|rfl|go_simp)⟩) LF.out ?_
   refine wpAnyH_take (i:=14) (v:= .int .i64 er) rfl (by kernel_rfl) (by kernel_rfl) (by kernel_rfl) (fun _ _ _ h=>h) (.inl ⟨by rfl,fun W hW=>by(first|rfl|go_simp)⟩) LF.out ?_
   refine wpAnyH_done (by kernel_rfl) ?_ _
   go_wp2_with fail
   go_meet
   exact⟨gx,A4,c4,rfl,rfl,rfl,GX,LF,EF,hid (RF.out.more HB.out)⟩
 case rest=>
  obtain⟨gx,A4,c4,rfl,rfl,rfl,GX,LF,EF,RF⟩:=hcut
  have her:=HER.out
  subst her
  have Z0:=hid (LF.out.z HGL.out HGD.out)
  have Z1:=hid (Z0.out.ans 0 (.int .i64 0))
  have E1:=hid (show MB (wc.setCell ⟨w.heap.size+1+1,0,none⟩ (.int .i64 0)) gx m2 from Blk.far EF.out (by have:=GX.out;show gx≠w.heap.size+1+1;omega) _)
  have R1:=hid (Own.setC (g:=w.heap.size+1+1) RF.out (by omega) 0 (.int .i64 0))
  obtain⟨VA,hVA⟩: ∃VA,VA=wc.setCell ⟨w.heap.size+1+1,0,none⟩ (.int .i64 0):=⟨_,rfl⟩
  rw[<-hVA] at Z1 E1 R1
  have HVA:=hid hVA.symm
  have Z2:=hid (Z1.out.lineM KE.out KM.out K2.out)
  have R2:=hid (Own.setCs (g:=g) (by have:=HGL.out;omega) m2.cs 226 _ R1.out)
  obtain⟨VB,hVB⟩: ∃VB,VB=VA.setCells g 226 m2.cs:=⟨_,rfl⟩
  rw[<-hVB] at Z2 R2
  have HVB:=hid hVB
  have Z4:=hid (Z2.out.ans 3 (.slice A4 ly c4))
  have R4:=hid (Own.setC (g:=w.heap.size+1+1) R2.out (by omega) 3 (.slice A4 ly c4))
  obtain⟨VC,hVC⟩: ∃VC,VC=VB.setCell ⟨w.heap.size+1+1,3,none⟩ (.slice A4 ly c4):=⟨_,rfl⟩
  rw[<-hVC] at Z4 R4
  have HVC:=hid hVC.symm
  have T4:=hid (show Blk VC (w.heap.size+1+1) 58 (ansC 0 q.v none 0 0 A4 ly c4) from Z4.out.T)
  have t0:=Blk.cell Z0.out.T 0
  have f0:=Blk.frozen Z0.out.T 0
  have t3:=Blk.cell Z2.out.T 3
  have f3:=Blk.frozen Z2.out.T 3
  clear hVA hVB hVC k1 KEn S1
  go_wp2_with (first
   |(rw[HVA.out];clear HVA t0 f0)
   |(rw[HVC.out];clear HVC t3 f3)
   |(refine wpList_loadM rfl (.tmp 12) rfl _ m2 rfl E1.out K2.out ?_)
   |(refine wpList_store_mid rfl 30 (.tmp 107) (.tmp 104) rfl g 226 m2.ag rfl rfl (by rw[Mm.size _ K2.out];exact LB.there Z1.out.L KE.out KM.out 226 102 (by omega)) (by rw[Mm.size _ K2.out];exact sizeM) (Mm.one _) ?_;rw[show m2.ag.toList=m2.cs from rfl,<-HVB.out];clear HVB)
   |(refine wpList_loadC rfl 58 (.tmp 5) rfl _ 58 _ _ rfl T4.out Tryd.underlying58 rfl sizeAns ?_)
   |(refine wpList_storeC rfl 58 (.tmp 4) (.tmp 133) rfl _ 58 _ (ansC 0 q.v none 0 0 A4 ly c4) rfl rfl Z4.out.R sizeAns rfl (one_ans _ _ _ _ _ _ _ _) ?_))
  refine bodyPost_ret (v:=_) (hR _ _ _ _ _ rfl (Blk.setRow_ Z4.out.R _) Tryd.underlying58 rfl sizeAns) rfl ?_
  exact⟨A4,c4,rfl,(R4.out.setRow (g:=w.heap.size+1) (by omega) _).more (base':=w.heap.size) (by omega),Z4.out.D.row (by have:=HGD.out;omega) (by have:=HGD.out;omega) _,Blk.rowFar Z4.out.L (by have:=HGL.out;omega),Z4.out.G.row (by omega) _⟩
end Go.Proofs.YthoiikkjjaldnaaDoor
