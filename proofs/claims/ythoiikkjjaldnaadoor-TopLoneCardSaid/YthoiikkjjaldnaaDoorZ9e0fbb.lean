/- Texts that the law rests on, laid together: TopE. -/
import Derived.Test.YthoiikkjjaldnaaDoorZbfb2ae
import Derived.Test.YthoiikkjjaldnaaDoorZ85a238
import Derived.Test.YthoiikkjjaldnaaDoorZ9f8558
import Derived.Deep.RegionHeld3
import Derived.Deep.DeepCutAuto
set_option maxHeartbeats 4000000
namespace Go.Proofs.YthoiikkjjaldnaaDoor
set_option linter.unusedVariables false
set_option linter.unusedSimpArgs false
set_option maxRecDepth 100000
open Go.RowKit
theorem run_loadVar_at {P:Program} (w:World) (p:Addr) (ty:TypeId) (cs:List Value) (d:TypeDesc) (hc: ∀j v,cs[j]?=some v->w.cell? (p.add j)=some v)
 (hu:P.underlying ty=some d) (hd:d.isRow=true) (hi:(P.info? ty).map (·.size)=some cs.length):
 (loadVar ty p).run P w= .ok (.agg cs.toArray) w:=by
 have hl:(loadCells p cs.length).run P w= .ok cs.toArray w:=run_loadCells_list (P:=P) w p cs hc
 cases hq:P.info? ty with
 |none=>simp[hq] at hi
 |some i=>
  have hs:i.size=cs.length:=by simpa[hq] using hi
  have hagg:(isAgg ty).run P w= .ok true w:=by
   unfold isAgg
   rw[Sem.run_bind,run_underlying hu w]
   cases d<;>simp_all
  simp[loadVar,Sem.run_bind,hagg,sizeOf,typeInfo,hq,hs,hl]
theorem wpList_loadG {P:Program} {ops:Array Oper} {rest:List Oper} {op:Oper} {a:Act} {w:World} {Q:Exit->Act->World->Prop} (hgd:op.guard=none) (ty:TypeId) (x:Operand) (ho:op.op= .load ty x)
 (p:Addr) (hx:a.eval x= .pointer (some p)) (cs:List Value) (d:TypeDesc) (hc: ∀j v,cs[j]?=some v->w.cell? (p.add j)=some v)
 (hu:P.underlying ty=some d) (hd:d.isRow=true) (hi:(P.info? ty).map (·.size)=some cs.length)
 (h:wpList P ops Q rest (a.put op.dst (.agg cs.toArray)) w):wpList P ops Q (op::rest) a w:=
 wpList_plain hgd fun K hK=>by
  unfold Oper.wp execOp
  simp only[ho,hx,Instr.loadAt,Instr.sureAddr,Sem.run_bind,Sem.run_pure,Result.andThen_ok,run_loadVar_at w p ty cs d hc hu hd hi]
  exact hK _ _ h
theorem pk_byts (ps:List Int):Byts (pkBytes ps):=by
 have hc:0<=chk (digL (pkW ps))/\chk (digL (pkW ps))<=255:=by unfold chk;omega
 unfold pkBytes
 split
 ·intro i
  rw[List.getD_eq_getElem?_getD]
  by_cases h:i<(digL (pkW ps)).length
  ·rw[List.getElem?_append_left h,<-List.getD_eq_getElem?_getD]
   exact digL_byts _ i
  ·rw[List.getElem?_append_right (by omega)]
   rcases hk:i-(digL (pkW ps)).length with _|k
   ·simp;omega
   ·simp
 ·exact fun i=>by simp
theorem wpList_load_midW {P:Program} {ops:Array Oper} {rest:List Oper} {op:Oper} {a:Act} {w:World} {Q:Exit->Act->World->Prop} (hw:Region.wanted op (yielded ops a.tmps)=true) (ty:TypeId) (x:Operand) (ho:op.op= .load ty x)
 (b o:Nat) (hx:a.eval x= .pointer (some ⟨b,o,none⟩)) (cs:List Value) (d:TypeDesc) (hc:w.rangeAt b o cs)
 (hu:P.underlying ty=some d) (hd:d.isRow=true) (hi:(P.info? ty).map (·.size)=some cs.length)
 (h:wpList P ops Q rest (a.put op.dst (.agg cs.toArray)) w):wpList P ops Q (op::rest) a w:=
 Go.BigFrame.wpList_want hw fun _ hK=>wp_load_mid ty x ho b o hx cs d hc hu hd hi (hK _ _ h)
theorem Tk.one (t:Tk):t.cs.toArray.all (·.oneCell')=true:=by
 rw[Array.all_eq_true_iff_forall_mem]
 intro v hv
 have:v∈t.cs:=by simpa using hv
 unfold Tk.cs at this
 simp only[List.mem_cons,List.not_mem_nil,or_false] at this
 rcases this with h|h|h|h|h<;>(subst h;rfl)
theorem Tk.at_ {w:World} {g:Nat} {t:Tk} (h:Blk w g 38 t.cs.toArray):w.cell? ⟨g,0,none⟩=some (.slice t.A t.xs.length t.c)/\w.cell? ⟨g,1,none⟩=some (.bool t.q)/\w.cell? ⟨g,2,none⟩=some (.int .i64 t.f)/\w.cell? ⟨g,3,none⟩=some (.int .i64 t.a)/\w.cell? ⟨g,4,none⟩=some (.int .i64 t.k):=
 ⟨Blk.cell h 0,Blk.cell h 1,Blk.cell h 2,Blk.cell h 3,Blk.cell h 4⟩
structure Tp (w W:World) (gE gD:Nat) (s:En) (m:Mm):Prop where
 E:EB W gE s
 D:MB W gD m
 bel:Below w.heap.size w W
 l0:w.heap.size<=gE
 l1:gE<gD
section
variable {w W W':World} {gE gD:Nat} {s s':En} {m m':Mm}
theorem Tp.lt (h:Tp w W gE gD s m):gD<W.heap.size:=Blk.lt h.D
theorem Tp.below (h:Tp w W gE gD s m) (hb:Below W.heap.size W W'):Tp w W' gE gD s m:=⟨Blk.below' h.E hb,Blk.below' h.D hb,h.bel.trans (hb.mono h.bel.size),h.l0,h.l1⟩
theorem Tp.setE (h:Tp w W gE gD s m):Tp w (W.setRow gE s'.ag) gE gD s' m:=⟨h.E.setRow s',Blk.rowFar h.D (by have:=h.l1;omega),below_setRow h.bel h.l0 _,h.l0,h.l1⟩
end
theorem EB.setAll {W:World} {g:Nat} {e0 e:En} (h:EB W g e0) (k0:e0.ok) (k:e.ok):EB (W.setCells g 0 e.cs) g e:=by
 have h0:Blk W g 32 ([]++(e0.cs++[])).toArray:=by rw[List.append_nil];exact h
 have h1:=blk_setCells e.cs e0.cs [] [] W h0 (by rw[e.len k,e0.len k0])
 rw[List.append_nil] at h1
 exact h1
theorem mb_setAll {W:World} {g:Nat} {e0 e:Mm} (h:MB W g e0) (k0:e0.ok) (k:e.ok):MB (W.setCells g 0 e.cs) g e:=by
 have h0:Blk W g 30 ([]++(e0.cs++[])).toArray:=by rw[List.append_nil];exact h
 have h1:=blk_setCells e.cs e0.cs [] [] W h0 (by rw[e.len k,e0.len k0])
 rw[List.append_nil] at h1
 exact h1
section
variable {w W:World} {gE gD:Nat} {s s':En} {m m':Mm}
end
structure Sz (W:World) (gx gy:Nat) (s:En) (m:Mm):Prop where
 E:EB W gx s
 M:MB W gy m
theorem Sz.below {W W':World} {gx gy:Nat} {s:En} {m:Mm} (h:Sz W gx gy s m) (hb:Below W.heap.size W W'):Sz W' gx gy s m:=⟨Blk.below' h.E hb,Blk.below' h.M hb⟩
theorem Sz.far {W:World} {gx gy g:Nat} {s:En} {m:Mm} (h:Sz W gx gy s m) (h1:gx≠g) (h2:gy≠g) (vs:List Value) (o:Nat):Sz (W.setCells g o vs) gx gy s m:=⟨blk_sc h1 _ _ _ h.E,blk_sc h2 _ _ _ h.M⟩
structure Sy (w W:World) (gE gD gT:Nat) (s:En) (m:Mm) (t:Tk):Prop where
 T:Tp w W gE gD s m
 K:Blk W gT 38 t.cs.toArray
 l:gD<gT
 r:Rs W w.heap.size t.A t.xs
section
variable {w W W':World} {gE gD gT:Nat} {s s':En} {m m':Mm} {t:Tk}
theorem Sy.lt (h:Sy w W gE gD gT s m t):gT<W.heap.size:=Blk.lt h.K
theorem Sy.below (h:Sy w W gE gD gT s m t) (hb:Below W.heap.size W W'):Sy w W' gE gD gT s m t:=⟨h.T.below hb,Blk.below' h.K hb,h.l,h.r.below (hb.mono h.T.bel.size)⟩
end
theorem Sy.far {w W:World} {gE gD gT g:Nat} {s:En} {m:Mm} {t:Tk} (h:Sy w W gE gD gT s m t) (hg:gT+1<=g) (vs:List Value) (o:Nat):Sy w (W.setCells g o vs) gE gD gT s m t:=by
 have h1:=h.T.l0
 have h2:=h.T.l1
 have h3:=h.l
 exact⟨⟨blk_sc (by omega) _ _ _ h.T.E,blk_sc (by omega) _ _ _ h.T.D,below_sc (by omega) _ _ _ h.T.bel,h.T.l0,h.T.l1⟩,blk_sc (by omega) _ _ _ h.K,h.l,h.r.below (below_sc (by omega) _ _ _ (Below.refl _ _))⟩
structure Sv (w W:World):Prop where
 b:Below w.heap.size w W
theorem Sv.below {w W W':World} (h:Sv w W) (hb:Below W.heap.size W W'):Sv w W':=⟨h.b.trans (hb.mono h.b.size)⟩
theorem Sv.far {w W:World} {g:Nat} (h:Sv w W) (hg:w.heap.size<=g) (vs:List Value) (o:Nat):Sv w (W.setCells g o vs):=⟨below_sc hg _ _ _ h.b⟩
theorem frP_se (a:List Int) (m:Mm) (u:List Int):(frP false a m u).se=m.se:=by
 unfold frP frN spM
 rfl
theorem frK_se {was now ps:List Int} {m:Mm}: ∀n,(frK false was now ps m n).se=m.se
 |0=>rfl
 |n+1=>by rw[frK,frP_se,frK_se n]
theorem frM_se {m:Mm} {ps:List Int} (h:ps.getD 0 0=1):(frM m ps).se=21845:=by
 have hq:frQ ps=false:=by unfold frQ;rw[h];rfl
 have h0:fr0 m ps=freshM:=by unfold fr0;rw[if_pos h]
 have h1:(frE m ps).se=21845:=by
  unfold frE
  rw[hq,h0,frK_se]
  rfl
 unfold frM
 generalize frE m ps=z at*
 exact h1
theorem zeros80:all16 (List.replicate 80 (0:Int))=true:=by decide
theorem al_se:(enE enB (List.replicate 80 0) true).m.se=21845:=by
 rw[enE_m enB_fit (by simp) zeros80]
 refine frM_se ?_
 have h1:enPk enB (List.replicate 80 0) true=enP 1 (enQ (enX enB (List.replicate 80 0))) (enM0 true enB.m).r (enNow (enX enB (List.replicate 80 0))) (enHi enB (List.replicate 80 0)).2.1 (enM0 true enB.m):=rfl
 rw[h1]
 rfl
theorem topalive_any (w:World) (T1:TabA w 2 rootsL) (T2:TabA w 0 gainsL) (T3:TabA w 1 widthL):
 Calls Tryd.prog 14 #[] w (fun e w'=>e= .returned (.bool true)/\Below w.heap.size w w'):=by
 have KB:=hid (fun W=>begin_any W)
 have KFr:=hid (fun W=>fresh_any W)
 have S0:=hid (⟨Below.refl _ _⟩:Sv w w)
 have TT:=hid (⟨T1,T2,T3⟩:TabA w 2 rootsL/\TabA w 0 gainsL/\TabA w 1 widthL)
 have SE:=hid al_se
 obtain⟨fr,hfr⟩: ∃fr:List Int,fr=List.replicate 80 0:=⟨_,rfl⟩
 have FL:fr.length=80:=by rw[hfr];simp
 have FI:all16 fr=true:=by rw[hfr];exact zeros80
 rw[<-hfr] at SE
 have YS:=en_sync enB_fit FL FI true
 have F2:=enE_fit enB_fit FL FI true
 have B15:=hid (enBs_len enB_fit FL FI true)
 have Y80:=hid (enY_len enB_fit FL FI true)
 have BYT:=hid (show Byts (enBs enB fr true) from by rw[enBs_yes enB_fit FL FI true];exact pk_byts _)
 have KEn:=hid (fun W A2 c2 (h:Rs W W.heap.size A2 (List.replicate 80 0)) (hS:Sv w W)=>show Calls Tryd.prog 10 #[.agg enB.ag,.slice A2 80 c2,.bool true] W (fun e w'=> ∃A3 c3 A4 c4,e= .returned (.tuple #[.agg (enE enB fr true).ag,.slice A3 15 c3,.slice A4 80 c4,.int .i64 0])/\OwnB w' W.heap.size A3 c3 (enBs enB fr true)/\Own w' W.heap.size A4 c4 (enY enB fr true)/\Below W.heap.size W w') from by
  have h1:=encode_any enB enB_fit.k A2 c2 80 fr true W (TT.out.1.below hS.b) (TT.out.2.1.below hS.b) (TT.out.2.2.below hS.b) (by rw[hfr];exact h) FL (by omega)
  unfold EncOut at h1
  rw[B15.out,Y80.out,enc_ok enB_fit FL FI] at h1
  exact h1)
 obtain⟨s2,hs2⟩: ∃s2,s2=enE enB fr true:=⟨_,rfl⟩
 obtain⟨bs,hbs⟩: ∃bs,bs=enBs enB fr true:=⟨_,rfl⟩
 obtain⟨ys,hys⟩: ∃ys,ys=enY enB fr true:=⟨_,rfl⟩
 rw[<-hs2] at F2 SE
 rw[<-hs2,<-hbs,<-hys] at KEn YS
 rw[<-hbs] at B15 BYT
 rw[<-hys] at Y80
 have K2:=hid F2.k
 have YS:=hid YS
 clear hs2 hbs hys hfr FL FI F2 T1 T2 T3
 go_enter Tryd.func14,Tryd.ntmps14
 go_upto_region 1 with fail
 go_cut [1,2,3,4] (fun s7 s8 s9 s10 wx=> ∃(gx:Nat) (A3:Option Addr) (c3:Nat) (A4:Option Addr) (c4:Nat),s7= .pointer (some ⟨gx,0,none⟩)/\s8= .slice A3 15 c3/\s9= .slice A4 80 c4/\s10= .int .i64 0/\Hid (w.heap.size<=gx)/\Hid (Sv w wx)/\Hid (EB wx gx s2)/\Hid (Rb wx wx.heap.size A3 bs)/\Hid (Rs wx wx.heap.size A4 ys)/\Hid (15<=c3))
 case first=>
  refine wp_region_held (S:=fun W=>Sv w W) (by kernel_rfl) ?_
  have L1:=hid (Sv.below S0.out ((Below.refl _ _).drew))
  change wpAnyH _ _ _ _ _ _ _ _ (World.drew _)
  obtain⟨W1,hW1⟩: ∃W1,W1=World.drew w:=⟨_,rfl⟩
  rw[<-hW1] at L1|-
  clear hW1
  refine wpAnyH_ready (rs:=[0,1,8]) (by kernel_rfl) (by simp) (AllReadyH.cons rfl (fun K hK=>?_) (AllReadyH.cons rfl (fun K hK=>?_) (AllReadyH.cons rfl (fun K hK=>?_) AllReadyH.nil)))
  ·
   go_simp
   with_reducible refine(KB.out W1).mono ?_
   rintro e W2 ⟨rfl,hB⟩
   have L2:=hid (Sv.below L1.out hB)
   have Q2:=hid hB
   clear hB
   go_simp
   refine hK.out _ _ L2.out (fun _=>?_)
   clear hK K
   refine wpAnyH_ready (rs:=[1,8]) (by kernel_rfl) (by simp) (AllReadyH.cons rfl (fun K hK=>?_) (AllReadyH.cons rfl (fun K hK=>?_) AllReadyH.nil))
   ·
    rw[if_pos (by rfl)]
    simp only[Act.put,List.setIfInBounds_toArray,List.set_cons_zero,List.set_cons_succ,List.getElem_toArray,List.getElem_cons_succ,List.getElem_cons_zero]
    refine wp_makeI _ _ rfl .i64 .i64 80 rfl rfl W2.heap.size (by omega) (Nat.le_refl _) ?_
    intro W3 hO hG
    obtain⟨A2,hA2⟩: ∃A2,A2=some (⟨W2.heap.size,0,none⟩:Addr):=⟨_,rfl⟩
    rw[<-hA2] at hO|-
    have Q3:=hid (show Below W2.heap.size W2 W3 from(Below.refl _ _).grown hG (Nat.le_refl _) (by simp))
    have L3:=hid (Sv.below L2.out Q3.out)
    have O3:=hid (show Rs W3 W3.heap.size A2 (List.replicate 80 0) from hO.reads)
    clear hO hG hA2
    refine hK.out _ _ L3.out (fun _=>?_)
    clear hK K
    refine wpAnyH_ready (rs:=[2,8]) (by kernel_rfl) (by simp) (AllReadyH.cons rfl (fun K hK=>?_) (AllReadyH.cons rfl (fun K hK=>?_) AllReadyH.nil))
    ·
     go_simp
     with_reducible refine(KEn.out W3 _ _ O3.out L3.out).mono ?_
     rintro e W4 ⟨A3,c3,A4,c4,rfl,hP,hR,hB⟩
     have L4:=hid (Sv.below L3.out hB)
     have Q4:=hid hB
     have O4:=hid ((O3.out.below Q4.out).more Q4.out.size)
     have P4:=hid hP
     have R4:=hid hR
     clear hP hR hB
     go_simp
     refine hK.out _ _ L4.out (fun _=>?_)
     clear hK K
     refine wpAnyH_take (i:=3) (v:= .tuple #[.agg s2.ag,.slice A3 15 c3,.slice A4 80 c4,.int .i64 0]) rfl (by kernel_rfl) (by kernel_rfl) (by kernel_rfl) (fun _ _ _ h=>h) (.inl ⟨by rfl,fun W hW=>by(first|rfl|go_simp)⟩) L4.out ?_
     refine wpAnyH_take (i:=4) (v:= .agg s2.ag) rfl (by kernel_rfl) (by kernel_rfl) (by kernel_rfl) (fun _ _ _ h=>h) (.inl ⟨by rfl,fun W hW=>by(first|rfl|go_simp)⟩) L4.out ?_
     refine wpAnyH_take (i:=5) (v:= .slice A3 15 c3) rfl (by kernel_rfl) (by kernel_rfl) (by kernel_rfl) (fun _ _ _ h=>h) (.inl ⟨by rfl,fun W hW=>by(first|rfl|go_simp)⟩) L4.out ?_
     refine wpAnyH_take (i:=6) (v:= .slice A4 80 c4) rfl (by kernel_rfl) (by kernel_rfl) (by kernel_rfl) (fun _ _ _ h=>h) (.inl ⟨by rfl,fun W hW=>by(first|rfl|go_simp)⟩) L4.out ?_
     refine wpAnyH_take (i:=7) (v:= .int .i64 0) rfl (by kernel_rfl) (by kernel_rfl) (by kernel_rfl) (fun _ _ _ h=>h) (.inl ⟨by rfl,fun W hW=>by(first|rfl|go_simp)⟩) L4.out ?_
     refine wpAnyH_ready (rs:=[8]) (by kernel_rfl) (by simp) (AllReadyH.cons rfl (fun K hK=>?_) AllReadyH.nil)
     go_simp
     have L5:=hid (Sv.below L4.out ((Below.refl _ _).alloc (Nat.le_refl _) (.cells Tryd.zeroCells32 32)))
     have Z5:=hid (newzeroE W4)
     obtain⟨W5,hW5⟩: ∃W5,W5=W4.alloc (.cells Tryd.zeroCells32 32):=⟨_,rfl⟩
     have Q5:=hid (show Below W4.heap.size W4 W5 from by rw[hW5];exact(Below.refl _ _).alloc (Nat.le_refl _) _)
     rw[<-hW5] at L5 Z5|-
     clear hW5
     obtain⟨gx,hgx⟩: ∃gx,gx=W4.heap.size:=⟨_,rfl⟩
     have GX:=hid (show w.heap.size<=gx from by rw[hgx];exact L4.out.b.size)
     have GE:=hid hgx
     rw[<-hgx] at Z5|-
     clear hgx
     have O5:=hid ((O4.out.below Q5.out).more Q5.out.size)
     have P5:=hid (P4.out.below Q5.out)
     have R5:=hid (R4.out.below Q5.out)
     refine hK.out _ _ L5.out (fun _=>?_)
     clear hK K
     refine wpAnyH_ready (rs:=[9]) (by kernel_rfl) (by simp) (AllReadyH.cons rfl (fun K hK=>?_) AllReadyH.nil)
     rw[if_pos (by rfl)]
     simp only[Act.put,List.setIfInBounds_toArray,List.set_cons_zero,List.set_cons_succ,List.getElem_toArray,List.getElem_cons_succ,List.getElem_cons_zero]
     refine wp_store_mid 32 (.tmp 1) (.tmp 12) rfl gx 0 s2.ag rfl rfl (by rw[En.size _ K2.out];exact EB.there Z5.out zeroEn_ok) (by rw[En.size _ K2.out];exact sizeE) (En.one _) ?_
     have LF:=hid (Sv.far L5.out GX.out (s2.ag.toList) 0)
     have EF:=hid (EB.setAll Z5.out zeroEn_ok K2.out)
     have PF:=hid (P4.out.below (below_sc (b:=gx) (by rw[GE.out];exact Nat.le_refl _) s2.ag.toList 0 _ Q5.out))
     have RF:=hid (R4.out.below (below_sc (b:=gx) (by rw[GE.out];exact Nat.le_refl _) s2.ag.toList 0 _ Q5.out))
     obtain⟨WF,hWF⟩: ∃WF,WF=W5.setCells gx 0 s2.ag.toList:=⟨_,rfl⟩
     have EF:=hid (show EB (W5.setCells gx 0 s2.ag.toList) gx s2 from EF.out)
     rw[<-hWF] at LF EF PF RF|-
     clear hWF
     refine hK.out _ _ LF.out (fun _=>?_)
     clear hK K
     refine wpAnyH_take (i:=10) (v:= .slice A3 15 c3) rfl (by kernel_rfl) (by kernel_rfl) (by kernel_rfl) (fun _ _ _ h=>h) (.inl ⟨by rfl,fun W hW=>by(first|rfl|go_simp)⟩) LF.out ?_
     refine wpAnyH_take (i:=11) (v:= .slice A4 80 c4) rfl (by kernel_rfl) (by kernel_rfl) (by kernel_rfl) (fun _ _ _ h=>h) (.inl ⟨by rfl,fun W hW=>by(first|rfl|go_simp)⟩) LF.out ?_
     refine wpAnyH_take (i:=12) (v:= .int .i64 0) rfl (by kernel_rfl) (by kernel_rfl) (by kernel_rfl) (fun _ _ _ h=>h) (.inl ⟨by rfl,fun W hW=>by(first|rfl|go_simp)⟩) LF.out ?_
     refine wpAnyH_done (by kernel_rfl) ?_ _
     go_wp2_with fail
     go_meet
     exact⟨gx,A3,c3,A4,c4,rfl,rfl,rfl,rfl,GX,LF,EF,hid PF.out.reads,hid RF.out.reads,hid (by have h:=PF.out.cap.1;rw[B15.out] at h;exact h)⟩
    ·
     go_simp
     have L4:=hid (Sv.below L3.out ((Below.refl _ _).alloc (Nat.le_refl _) (.cells Tryd.zeroCells32 32)))
     have Z4:=hid (newzeroE W3)
     obtain⟨W4,hW4⟩: ∃W4,W4=W3.alloc (.cells Tryd.zeroCells32 32):=⟨_,rfl⟩
     have Q4:=hid (show Below W3.heap.size W3 W4 from by rw[hW4];exact(Below.refl _ _).alloc (Nat.le_refl _) _)
     rw[<-hW4] at L4 Z4|-
     clear hW4
     obtain⟨gx,hgx⟩: ∃gx,gx=W3.heap.size:=⟨_,rfl⟩
     have GX:=hid (show w.heap.size<=gx from by rw[hgx];exact L3.out.b.size)
     have GE:=hid hgx
     rw[<-hgx] at Z4|-
     clear hgx
     have O4:=hid ((O3.out.below Q4.out).more Q4.out.size)
     refine hK.out _ _ L4.out (fun _=>?_)
     clear hK K
     refine wpAnyH_ready (rs:=[2]) (by kernel_rfl) (by simp) (AllReadyH.cons rfl (fun K hK=>?_) AllReadyH.nil)
     go_simp
     with_reducible refine(KEn.out W4 _ _ O4.out L4.out).mono ?_
     rintro e W5 ⟨A3,c3,A4,c4,rfl,hP,hR,hB⟩
     have GB:=hid (show gx<W4.heap.size from Blk.lt Z4.out)
     have L5:=hid (Sv.below L4.out hB)
     have Q5:=hid hB
     have O5:=hid ((O4.out.below Q5.out).more Q5.out.size)
     have Z5:=hid (Blk.below' Z4.out Q5.out)
     have P5:=hid hP
     have R5:=hid hR
     clear hP hR hB
     go_simp
     refine hK.out _ _ L5.out (fun _=>?_)
     clear hK K
     refine wpAnyH_take (i:=3) (v:= .tuple #[.agg s2.ag,.slice A3 15 c3,.slice A4 80 c4,.int .i64 0]) rfl (by kernel_rfl) (by kernel_rfl) (by kernel_rfl) (fun _ _ _ h=>h) (.inl ⟨by rfl,fun W hW=>by(first|rfl|go_simp)⟩) L5.out ?_
     refine wpAnyH_take (i:=4) (v:= .agg s2.ag) rfl (by kernel_rfl) (by kernel_rfl) (by kernel_rfl) (fun _ _ _ h=>h) (.inl ⟨by rfl,fun W hW=>by(first|rfl|go_simp)⟩) L5.out ?_
     refine wpAnyH_take (i:=5) (v:= .slice A3 15 c3) rfl (by kernel_rfl) (by kernel_rfl) (by kernel_rfl) (fun _ _ _ h=>h) (.inl ⟨by rfl,fun W hW=>by(first|rfl|go_simp)⟩) L5.out ?_
     refine wpAnyH_take (i:=6) (v:= .slice A4 80 c4) rfl (by kernel_rfl) (by kernel_rfl) (by kernel_rfl) (fun _ _ _ h=>h) (.inl ⟨by rfl,fun W hW=>by(first|rfl|go_simp)⟩) L5.out ?_
     refine wpAnyH_take (i:=7) (v:= .int .i64 0) rfl (by kernel_rfl) (by kernel_rfl) (by kernel_rfl) (fun _ _ _ h=>h) (.inl ⟨by rfl,fun W hW=>by(first|rfl|go_simp)⟩) L5.out ?_
     refine wpAnyH_ready (rs:=[9]) (by kernel_rfl) (by simp) (AllReadyH.cons rfl (fun K hK=>?_) AllReadyH.nil)
     rw[if_pos (by rfl)]
     simp only[Act.put,List.setIfInBounds_toArray,List.set_cons_zero,List.set_cons_succ,List.getElem_toArray,List.getElem_cons_succ,List.getElem_cons_zero]
     refine wp_store_mid 32 (.tmp 1) (.tmp 12) rfl gx 0 s2.ag rfl rfl (by rw[En.size _ K2.out];exact EB.there Z5.out zeroEn_ok) (by rw[En.size _ K2.out];exact sizeE) (En.one _) ?_
     have LF:=hid (Sv.far L5.out GX.out (s2.ag.toList) 0)
     have EF:=hid (EB.setAll Z5.out zeroEn_ok K2.out)
     have PF:=hid (ownB_setCs (g:=gx) GB.out s2.ag.toList 0 _ P5.out)
     have RF:=hid (Own.setCs (g:=gx) GB.out s2.ag.toList 0 _ R5.out)
     obtain⟨WF,hWF⟩: ∃WF,WF=W5.setCells gx 0 s2.ag.toList:=⟨_,rfl⟩
     have EF:=hid (show EB (W5.setCells gx 0 s2.ag.toList) gx s2 from EF.out)
     rw[<-hWF] at LF EF PF RF|-
     clear hWF
     refine hK.out _ _ LF.out (fun _=>?_)
     clear hK K
     refine wpAnyH_take (i:=10) (v:= .slice A3 15 c3) rfl (by kernel_rfl) (by kernel_rfl) (by kernel_rfl) (fun _ _ _ h=>h) (.inl ⟨by rfl,fun W hW=>by(first|rfl|go_simp)⟩) LF.out ?_
     refine wpAnyH_take (i:=11) (v:= .slice A4 80 c4) rfl (by kernel_rfl) (by kernel_rfl) (by kernel_rfl) (fun _ _ _ h=>h) (.inl ⟨by rfl,fun W hW=>by(first|rfl|go_simp)⟩) LF.out ?_
     refine wpAnyH_take (i:=12) (v:= .int .i64 0) rfl (by kernel_rfl) (by kernel_rfl) (by kernel_rfl) (fun _ _ _ h=>h) (.inl ⟨by rfl,fun W hW=>by(first|rfl|go_simp)⟩) LF.out ?_
     refine wpAnyH_done (by kernel_rfl) ?_ _
     go_wp2_with fail
     go_meet
     exact⟨gx,A3,c3,A4,c4,rfl,rfl,rfl,rfl,GX,LF,EF,hid PF.out.reads,hid RF.out.reads,hid (by have h:=PF.out.cap.1;rw[B15.out] at h;exact h)⟩
   ·
    go_simp
    have L3:=hid (Sv.below L2.out ((Below.refl _ _).alloc (Nat.le_refl _) (.cells Tryd.zeroCells32 32)))
    have Z3:=hid (newzeroE W2)
    obtain⟨W3,hW3⟩: ∃W3,W3=W2.alloc (.cells Tryd.zeroCells32 32):=⟨_,rfl⟩
    have Q3:=hid (show Below W2.heap.size W2 W3 from by rw[hW3];exact(Below.refl _ _).alloc (Nat.le_refl _) _)
    rw[<-hW3] at L3 Z3|-
    clear hW3
    obtain⟨gx,hgx⟩: ∃gx,gx=W2.heap.size:=⟨_,rfl⟩
    have GX:=hid (show w.heap.size<=gx from by rw[hgx];exact L2.out.b.size)
    have GE:=hid hgx
    rw[<-hgx] at Z3|-
    clear hgx
    refine hK.out _ _ L3.out (fun _=>?_)
    clear hK K
    refine wpAnyH_ready (rs:=[1]) (by kernel_rfl) (by simp) (AllReadyH.cons rfl (fun K hK=>?_) AllReadyH.nil)
    rw[if_pos (by rfl)]
    simp only[Act.put,List.setIfInBounds_toArray,List.set_cons_zero,List.set_cons_succ,List.getElem_toArray,List.getElem_cons_succ,List.getElem_cons_zero]
    refine wp_makeI _ _ rfl .i64 .i64 80 rfl rfl W3.heap.size (by omega) (Nat.le_refl _) ?_
    intro W4 hO hG
    obtain⟨A2,hA2⟩: ∃A2,A2=some (⟨W3.heap.size,0,none⟩:Addr):=⟨_,rfl⟩
    rw[<-hA2] at hO|-
    have Q4:=hid (show Below W3.heap.size W3 W4 from(Below.refl _ _).grown hG (Nat.le_refl _) (by simp))
    have L4:=hid (Sv.below L3.out Q4.out)
    have Z4:=hid (Blk.below' Z3.out Q4.out)
    have O4:=hid (show Rs W4 W4.heap.size A2 (List.replicate 80 0) from hO.reads)
    clear hO hG hA2
    refine hK.out _ _ L4.out (fun _=>?_)
    clear hK K
    refine wpAnyH_ready (rs:=[2]) (by kernel_rfl) (by simp) (AllReadyH.cons rfl (fun K hK=>?_) AllReadyH.nil)
    go_simp
    with_reducible refine(KEn.out W4 _ _ O4.out L4.out).mono ?_
    rintro e W5 ⟨A3,c3,A4,c4,rfl,hP,hR,hB⟩
    have GB:=hid (show gx<W4.heap.size from Blk.lt Z4.out)
    have L5:=hid (Sv.below L4.out hB)
    have Q5:=hid hB
    have O5:=hid ((O4.out.below Q5.out).more Q5.out.size)
    have Z5:=hid (Blk.below' Z4.out Q5.out)
    have P5:=hid hP
    have R5:=hid hR
    clear hP hR hB
    go_simp
    refine hK.out _ _ L5.out (fun _=>?_)
    clear hK K
    refine wpAnyH_take (i:=3) (v:= .tuple #[.agg s2.ag,.slice A3 15 c3,.slice A4 80 c4,.int .i64 0]) rfl (by kernel_rfl) (by kernel_rfl) (by kernel_rfl) (fun _ _ _ h=>h) (.inl ⟨by rfl,fun W hW=>by(first|rfl|go_simp)⟩) L5.out ?_
    refine wpAnyH_take (i:=4) (v:= .agg s2.ag) rfl (by kernel_rfl) (by kernel_rfl) (by kernel_rfl) (fun _ _ _ h=>h) (.inl ⟨by rfl,fun W hW=>by(first|rfl|go_simp)⟩) L5.out ?_
    refine wpAnyH_take (i:=5) (v:= .slice A3 15 c3) rfl (by kernel_rfl) (by kernel_rfl) (by kernel_rfl) (fun _ _ _ h=>h) (.inl ⟨by rfl,fun W hW=>by(first|rfl|go_simp)⟩) L5.out ?_
    refine wpAnyH_take (i:=6) (v:= .slice A4 80 c4) rfl (by kernel_rfl) (by kernel_rfl) (by kernel_rfl) (fun _ _ _ h=>h) (.inl ⟨by rfl,fun W hW=>by(first|rfl|go_simp)⟩) L5.out ?_
    refine wpAnyH_take (i:=7) (v:= .int .i64 0) rfl (by kernel_rfl) (by kernel_rfl) (by kernel_rfl) (fun _ _ _ h=>h) (.inl ⟨by rfl,fun W hW=>by(first|rfl|go_simp)⟩) L5.out ?_
    refine wpAnyH_ready (rs:=[9]) (by kernel_rfl) (by simp) (AllReadyH.cons rfl (fun K hK=>?_) AllReadyH.nil)
    rw[if_pos (by rfl)]
    simp only[Act.put,List.setIfInBounds_toArray,List.set_cons_zero,List.set_cons_succ,List.getElem_toArray,List.getElem_cons_succ,List.getElem_cons_zero]
    refine wp_store_mid 32 (.tmp 1) (.tmp 12) rfl gx 0 s2.ag rfl rfl (by rw[En.size _ K2.out];exact EB.there Z5.out zeroEn_ok) (by rw[En.size _ K2.out];exact sizeE) (En.one _) ?_
    have LF:=hid (Sv.far L5.out GX.out (s2.ag.toList) 0)
    have EF:=hid (EB.setAll Z5.out zeroEn_ok K2.out)
    have PF:=hid (ownB_setCs (g:=gx) GB.out s2.ag.toList 0 _ P5.out)
    have RF:=hid (Own.setCs (g:=gx) GB.out s2.ag.toList 0 _ R5.out)
    obtain⟨WF,hWF⟩: ∃WF,WF=W5.setCells gx 0 s2.ag.toList:=⟨_,rfl⟩
    have EF:=hid (show EB (W5.setCells gx 0 s2.ag.toList) gx s2 from EF.out)
    rw[<-hWF] at LF EF PF RF|-
    clear hWF
    refine hK.out _ _ LF.out (fun _=>?_)
    clear hK K
    refine wpAnyH_take (i:=10) (v:= .slice A3 15 c3) rfl (by kernel_rfl) (by kernel_rfl) (by kernel_rfl) (fun _ _ _ h=>h) (.inl ⟨by rfl,fun W hW=>by(first|rfl|go_simp)⟩) LF.out ?_
    refine wpAnyH_take (i:=11) (v:= .slice A4 80 c4) rfl (by kernel_rfl) (by kernel_rfl) (by kernel_rfl) (fun _ _ _ h=>h) (.inl ⟨by rfl,fun W hW=>by(first|rfl|go_simp)⟩) LF.out ?_
    refine wpAnyH_take (i:=12) (v:= .int .i64 0) rfl (by kernel_rfl) (by kernel_rfl) (by kernel_rfl) (fun _ _ _ h=>h) (.inl ⟨by rfl,fun W hW=>by(first|rfl|go_simp)⟩) LF.out ?_
    refine wpAnyH_done (by kernel_rfl) ?_ _
    go_wp2_with fail
    go_meet
    exact⟨gx,A3,c3,A4,c4,rfl,rfl,rfl,rfl,GX,LF,EF,hid PF.out.reads,hid RF.out.reads,hid (by have h:=PF.out.cap.1;rw[B15.out] at h;exact h)⟩
  ·
   rw[if_pos (by rfl)]
   simp only[Act.put,List.setIfInBounds_toArray,List.set_cons_zero,List.set_cons_succ,List.getElem_toArray,List.getElem_cons_succ,List.getElem_cons_zero]
   refine wp_makeI _ _ rfl .i64 .i64 80 rfl rfl W1.heap.size (by omega) (Nat.le_refl _) ?_
   intro W2 hO hG
   obtain⟨A2,hA2⟩: ∃A2,A2=some (⟨W1.heap.size,0,none⟩:Addr):=⟨_,rfl⟩
   rw[<-hA2] at hO|-
   have Q2:=hid (show Below W1.heap.size W1 W2 from(Below.refl _ _).grown hG (Nat.le_refl _) (by simp))
   have L2:=hid (Sv.below L1.out Q2.out)
   have O2:=hid (show Rs W2 W2.heap.size A2 (List.replicate 80 0) from hO.reads)
   clear hO hG hA2
   refine hK.out _ _ L2.out (fun _=>?_)
   clear hK K
   refine wpAnyH_ready (rs:=[0,8]) (by kernel_rfl) (by simp) (AllReadyH.cons rfl (fun K hK=>?_) (AllReadyH.cons rfl (fun K hK=>?_) AllReadyH.nil))
   ·
    go_simp
    with_reducible refine(KB.out W2).mono ?_
    rintro e W3 ⟨rfl,hB⟩
    have L3:=hid (Sv.below L2.out hB)
    have Q3:=hid hB
    have O3:=hid ((O2.out.below Q3.out).more Q3.out.size)
    clear hB
    go_simp
    refine hK.out _ _ L3.out (fun _=>?_)
    clear hK K
    refine wpAnyH_ready (rs:=[2,8]) (by kernel_rfl) (by simp) (AllReadyH.cons rfl (fun K hK=>?_) (AllReadyH.cons rfl (fun K hK=>?_) AllReadyH.nil))
    ·
     go_simp
     with_reducible refine(KEn.out W3 _ _ O3.out L3.out).mono ?_
     rintro e W4 ⟨A3,c3,A4,c4,rfl,hP,hR,hB⟩
     have L4:=hid (Sv.below L3.out hB)
     have Q4:=hid hB
     have O4:=hid ((O3.out.below Q4.out).more Q4.out.size)
     have P4:=hid hP
     have R4:=hid hR
     clear hP hR hB
     go_simp
     refine hK.out _ _ L4.out (fun _=>?_)
     clear hK K
     refine wpAnyH_take (i:=3) (v:= .tuple #[.agg s2.ag,.slice A3 15 c3,.slice A4 80 c4,.int .i64 0]) rfl (by kernel_rfl) (by kernel_rfl) (by kernel_rfl) (fun _ _ _ h=>h) (.inl ⟨by rfl,fun W hW=>by(first|rfl|go_simp)⟩) L4.out ?_
     refine wpAnyH_take (i:=4) (v:= .agg s2.ag) rfl (by kernel_rfl) (by kernel_rfl) (by kernel_rfl) (fun _ _ _ h=>h) (.inl ⟨by rfl,fun W hW=>by(first|rfl|go_simp)⟩) L4.out ?_
     refine wpAnyH_take (i:=5) (v:= .slice A3 15 c3) rfl (by kernel_rfl) (by kernel_rfl) (by kernel_rfl) (fun _ _ _ h=>h) (.inl ⟨by rfl,fun W hW=>by(first|rfl|go_simp)⟩) L4.out ?_
     refine wpAnyH_take (i:=6) (v:= .slice A4 80 c4) rfl (by kernel_rfl) (by kernel_rfl) (by kernel_rfl) (fun _ _ _ h=>h) (.inl ⟨by rfl,fun W hW=>by(first|rfl|go_simp)⟩) L4.out ?_
     refine wpAnyH_take (i:=7) (v:= .int .i64 0) rfl (by kernel_rfl) (by kernel_rfl) (by kernel_rfl) (fun _ _ _ h=>h) (.inl ⟨by rfl,fun W hW=>by(first|rfl|go_simp)⟩) L4.out ?_
     refine wpAnyH_ready (rs:=[8]) (by kernel_rfl) (by simp) (AllReadyH.cons rfl (fun K hK=>?_) AllReadyH.nil)
     go_simp
     have L5:=hid (Sv.below L4.out ((Below.refl _ _).alloc (Nat.le_refl _) (.cells Tryd.zeroCells32 32)))
     have Z5:=hid (newzeroE W4)
     obtain⟨W5,hW5⟩: ∃W5,W5=W4.alloc (.cells Tryd.zeroCells32 32):=⟨_,rfl⟩
     have Q5:=hid (show Below W4.heap.size W4 W5 from by rw[hW5];exact(Below.refl _ _).alloc (Nat.le_refl _) _)
     rw[<-hW5] at L5 Z5|-
     clear hW5
     obtain⟨gx,hgx⟩: ∃gx,gx=W4.heap.size:=⟨_,rfl⟩
     have GX:=hid (show w.heap.size<=gx from by rw[hgx];exact L4.out.b.size)
     have GE:=hid hgx
     rw[<-hgx] at Z5|-
     clear hgx
     have O5:=hid ((O4.out.below Q5.out).more Q5.out.size)
     have P5:=hid (P4.out.below Q5.out)
     have R5:=hid (R4.out.below Q5.out)
     refine hK.out _ _ L5.out (fun _=>?_)
     clear hK K
     refine wpAnyH_ready (rs:=[9]) (by kernel_rfl) (by simp) (AllReadyH.cons rfl (fun K hK=>?_) AllReadyH.nil)
     rw[if_pos (by rfl)]
     simp only[Act.put,List.setIfInBounds_toArray,List.set_cons_zero,List.set_cons_succ,List.getElem_toArray,List.getElem_cons_succ,List.getElem_cons_zero]
     refine wp_store_mid 32 (.tmp 1) (.tmp 12) rfl gx 0 s2.ag rfl rfl (by rw[En.size _ K2.out];exact EB.there Z5.out zeroEn_ok) (by rw[En.size _ K2.out];exact sizeE) (En.one _) ?_
     have LF:=hid (Sv.far L5.out GX.out (s2.ag.toList) 0)
     have EF:=hid (EB.setAll Z5.out zeroEn_ok K2.out)
     have PF:=hid (P4.out.below (below_sc (b:=gx) (by rw[GE.out];exact Nat.le_refl _) s2.ag.toList 0 _ Q5.out))
     have RF:=hid (R4.out.below (below_sc (b:=gx) (by rw[GE.out];exact Nat.le_refl _) s2.ag.toList 0 _ Q5.out))
     obtain⟨WF,hWF⟩: ∃WF,WF=W5.setCells gx 0 s2.ag.toList:=⟨_,rfl⟩
     have EF:=hid (show EB (W5.setCells gx 0 s2.ag.toList) gx s2 from EF.out)
     rw[<-hWF] at LF EF PF RF|-
     clear hWF
     refine hK.out _ _ LF.out (fun _=>?_)
     clear hK K
     refine wpAnyH_take (i:=10) (v:= .slice A3 15 c3) rfl (by kernel_rfl) (by kernel_rfl) (by kernel_rfl) (fun _ _ _ h=>h) (.inl ⟨by rfl,fun W hW=>by(first|rfl|go_simp)⟩) LF.out ?_
     refine wpAnyH_take (i:=11) (v:= .slice A4 80 c4) rfl (by kernel_rfl) (by kernel_rfl) (by kernel_rfl) (fun _ _ _ h=>h) (.inl ⟨by rfl,fun W hW=>by(first|rfl|go_simp)⟩) LF.out ?_
     refine wpAnyH_take (i:=12) (v:= .int .i64 0) rfl (by kernel_rfl) (by kernel_rfl) (by kernel_rfl) (fun _ _ _ h=>h) (.inl ⟨by rfl,fun W hW=>by(first|rfl|go_simp)⟩) LF.out ?_
     refine wpAnyH_done (by kernel_rfl) ?_ _
     go_wp2_with fail
     go_meet
     exact⟨gx,A3,c3,A4,c4,rfl,rfl,rfl,rfl,GX,LF,EF,hid PF.out.reads,hid RF.out.reads,hid (by have h:=PF.out.cap.1;rw[B15.out] at h;exact h)⟩
    ·
     go_simp
     have L4:=hid (Sv.below L3.out ((Below.refl _ _).alloc (Nat.le_refl _) (.cells Tryd.zeroCells32 32)))
     have Z4:=hid (newzeroE W3)
     obtain⟨W4,hW4⟩: ∃W4,W4=W3.alloc (.cells Tryd.zeroCells32 32):=⟨_,rfl⟩
     have Q4:=hid (show Below W3.heap.size W3 W4 from by rw[hW4];exact(Below.refl _ _).alloc (Nat.le_refl _) _)
     rw[<-hW4] at L4 Z4|-
     clear hW4
     obtain⟨gx,hgx⟩: ∃gx,gx=W3.heap.size:=⟨_,rfl⟩
     have GX:=hid (show w.heap.size<=gx from by rw[hgx];exact L3.out.b.size)
     have GE:=hid hgx
     rw[<-hgx] at Z4|-
     clear hgx
     have O4:=hid ((O3.out.below Q4.out).more Q4.out.size)
     refine hK.out _ _ L4.out (fun _=>?_)
     clear hK K
     refine wpAnyH_ready (rs:=[2]) (by kernel_rfl) (by simp) (AllReadyH.cons rfl (fun K hK=>?_) AllReadyH.nil)
     go_simp
     with_reducible refine(KEn.out W4 _ _ O4.out L4.out).mono ?_
     rintro e W5 ⟨A3,c3,A4,c4,rfl,hP,hR,hB⟩
     have GB:=hid (show gx<W4.heap.size from Blk.lt Z4.out)
     have L5:=hid (Sv.below L4.out hB)
     have Q5:=hid hB
     have O5:=hid ((O4.out.below Q5.out).more Q5.out.size)
     have Z5:=hid (Blk.below' Z4.out Q5.out)
     have P5:=hid hP
     have R5:=hid hR
     clear hP hR hB
     go_simp
     refine hK.out _ _ L5.out (fun _=>?_)
     clear hK K
     refine wpAnyH_take (i:=3) (v:= .tuple #[.agg s2.ag,.slice A3 15 c3,.slice A4 80 c4,.int .i64 0]) rfl (by kernel_rfl) (by kernel_rfl) (by kernel_rfl) (fun _ _ _ h=>h) (.inl ⟨by rfl,fun W hW=>by(first|rfl|go_simp)⟩) L5.out ?_
     refine wpAnyH_take (i:=4) (v:= .agg s2.ag) rfl (by kernel_rfl) (by kernel_rfl) (by kernel_rfl) (fun _ _ _ h=>h) (.inl ⟨by rfl,fun W hW=>by(first|rfl|go_simp)⟩) L5.out ?_
     refine wpAnyH_take (i:=5) (v:= .slice A3 15 c3) rfl (by kernel_rfl) (by kernel_rfl) (by kernel_rfl) (fun _ _ _ h=>h) (.inl ⟨by rfl,fun W hW=>by(first|rfl|go_simp)⟩) L5.out ?_
     refine wpAnyH_take (i:=6) (v:= .slice A4 80 c4) rfl (by kernel_rfl) (by kernel_rfl) (by kernel_rfl) (fun _ _ _ h=>h) (.inl ⟨by rfl,fun W hW=>by(first|rfl|go_simp)⟩) L5.out ?_
     refine wpAnyH_take (i:=7) (v:= .int .i64 0) rfl (by kernel_rfl) (by kernel_rfl) (by kernel_rfl) (fun _ _ _ h=>h) (.inl ⟨by rfl,fun W hW=>by(first|rfl|go_simp)⟩) L5.out ?_
     refine wpAnyH_ready (rs:=[9]) (by kernel_rfl) (by simp) (AllReadyH.cons rfl (fun K hK=>?_) AllReadyH.nil)
     rw[if_pos (by rfl)]
     simp only[Act.put,List.setIfInBounds_toArray,List.set_cons_zero,List.set_cons_succ,List.getElem_toArray,List.getElem_cons_succ,List.getElem_cons_zero]
     refine wp_store_mid 32 (.tmp 1) (.tmp 12) rfl gx 0 s2.ag rfl rfl (by rw[En.size _ K2.out];exact EB.there Z5.out zeroEn_ok) (by rw[En.size _ K2.out];exact sizeE) (En.one _) ?_
     have LF:=hid (Sv.far L5.out GX.out (s2.ag.toList) 0)
     have EF:=hid (EB.setAll Z5.out zeroEn_ok K2.out)
     have PF:=hid (ownB_setCs (g:=gx) GB.out s2.ag.toList 0 _ P5.out)
     have RF:=hid (Own.setCs (g:=gx) GB.out s2.ag.toList 0 _ R5.out)
     obtain⟨WF,hWF⟩: ∃WF,WF=W5.setCells gx 0 s2.ag.toList:=⟨_,rfl⟩
     have EF:=hid (show EB (W5.setCells gx 0 s2.ag.toList) gx s2 from EF.out)
     rw[<-hWF] at LF EF PF RF|-
     clear hWF
     refine hK.out _ _ LF.out (fun _=>?_)
     clear hK K
     refine wpAnyH_take (i:=10) (v:= .slice A3 15 c3) rfl (by kernel_rfl) (by kernel_rfl) (by kernel_rfl) (fun _ _ _ h=>h) (.inl ⟨by rfl,fun W hW=>by(first|rfl|go_simp)⟩) LF.out ?_
     refine wpAnyH_take (i:=11) (v:= .slice A4 80 c4) rfl (by kernel_rfl) (by kernel_rfl) (by kernel_rfl) (fun _ _ _ h=>h) (.inl ⟨by rfl,fun W hW=>by(first|rfl|go_simp)⟩) LF.out ?_
     refine wpAnyH_take (i:=12) (v:= .int .i64 0) rfl (by kernel_rfl) (by kernel_rfl) (by kernel_rfl) (fun _ _ _ h=>h) (.inl ⟨by rfl,fun W hW=>by(first|rfl|go_simp)⟩) LF.out ?_
     refine wpAnyH_done (by kernel_rfl) ?_ _
     go_wp2_with fail
     go_meet
     exact⟨gx,A3,c3,A4,c4,rfl,rfl,rfl,rfl,GX,LF,EF,hid PF.out.reads,hid RF.out.reads,hid (by have h:=PF.out.cap.1;rw[B15.out] at h;exact h)⟩
   ·
    go_simp
    have L3:=hid (Sv.below L2.out ((Below.refl _ _).alloc (Nat.le_refl _) (.cells Tryd.zeroCells32 32)))
    have Z3:=hid (newzeroE W2)
    obtain⟨W3,hW3⟩: ∃W3,W3=W2.alloc (.cells Tryd.zeroCells32 32):=⟨_,rfl⟩
    have Q3:=hid (show Below W2.heap.size W2 W3 from by rw[hW3];exact(Below.refl _ _).alloc (Nat.le_refl _) _)
    rw[<-hW3] at L3 Z3|-
    clear hW3
    obtain⟨gx,hgx⟩: ∃gx,gx=W2.heap.size:=⟨_,rfl⟩
    have GX:=hid (show w.heap.size<=gx from by rw[hgx];exact L2.out.b.size)
    have GE:=hid hgx
    rw[<-hgx] at Z3|-
    clear hgx
    have O3:=hid ((O2.out.below Q3.out).more Q3.out.size)
    refine hK.out _ _ L3.out (fun _=>?_)
    clear hK K
    refine wpAnyH_ready (rs:=[0]) (by kernel_rfl) (by simp) (AllReadyH.cons rfl (fun K hK=>?_) AllReadyH.nil)
    go_simp
    with_reducible refine(KB.out W3).mono ?_
    rintro e W4 ⟨rfl,hB⟩
    have L4:=hid (Sv.below L3.out hB)
    have Q4:=hid hB
    have O4:=hid ((O3.out.below Q4.out).more Q4.out.size)
    have Z4:=hid (Blk.below' Z3.out Q4.out)
    clear hB
    go_simp
    refine hK.out _ _ L4.out (fun _=>?_)
    clear hK K
    refine wpAnyH_ready (rs:=[2]) (by kernel_rfl) (by simp) (AllReadyH.cons rfl (fun K hK=>?_) AllReadyH.nil)
    go_simp
    with_reducible refine(KEn.out W4 _ _ O4.out L4.out).mono ?_
    rintro e W5 ⟨A3,c3,A4,c4,rfl,hP,hR,hB⟩
    have GB:=hid (show gx<W4.heap.size from Blk.lt Z4.out)
    have L5:=hid (Sv.below L4.out hB)
    have Q5:=hid hB
    have O5:=hid ((O4.out.below Q5.out).more Q5.out.size)
    have Z5:=hid (Blk.below' Z4.out Q5.out)
    have P5:=hid hP
    have R5:=hid hR
    clear hP hR hB
    go_simp
    refine hK.out _ _ L5.out (fun _=>?_)
    clear hK K
    refine wpAnyH_take (i:=3) (v:= .tuple #[.agg s2.ag,.slice A3 15 c3,.slice A4 80 c4,.int .i64 0]) rfl (by kernel_rfl) (by kernel_rfl) (by kernel_rfl) (fun _ _ _ h=>h) (.inl ⟨by rfl,fun W hW=>by(first|rfl|go_simp)⟩) L5.out ?_
    refine wpAnyH_take (i:=4) (v:= .agg s2.ag) rfl (by kernel_rfl) (by kernel_rfl) (by kernel_rfl) (fun _ _ _ h=>h) (.inl ⟨by rfl,fun W hW=>by(first|rfl|go_simp)⟩) L5.out ?_
    refine wpAnyH_take (i:=5) (v:= .slice A3 15 c3) rfl (by kernel_rfl) (by kernel_rfl) (by kernel_rfl) (fun _ _ _ h=>h) (.inl ⟨by rfl,fun W hW=>by(first|rfl|go_simp)⟩) L5.out ?_
    refine wpAnyH_take (i:=6) (v:= .slice A4 80 c4) rfl (by kernel_rfl) (by kernel_rfl) (by kernel_rfl) (fun _ _ _ h=>h) (.inl ⟨by rfl,fun W hW=>by(first|rfl|go_simp)⟩) L5.out ?_
    refine wpAnyH_take (i:=7) (v:= .int .i64 0) rfl (by kernel_rfl) (by kernel_rfl) (by kernel_rfl) (fun _ _ _ h=>h) (.inl ⟨by rfl,fun W hW=>by(first|rfl|go_simp)⟩) L5.out ?_
    refine wpAnyH_ready (rs:=[9]) (by kernel_rfl) (by simp) (AllReadyH.cons rfl (fun K hK=>?_) AllReadyH.nil)
    rw[if_pos (by rfl)]
    simp only[Act.put,List.setIfInBounds_toArray,List.set_cons_zero,List.set_cons_succ,List.getElem_toArray,List.getElem_cons_succ,List.getElem_cons_zero]
    refine wp_store_mid 32 (.tmp 1) (.tmp 12) rfl gx 0 s2.ag rfl rfl (by rw[En.size _ K2.out];exact EB.there Z5.out zeroEn_ok) (by rw[En.size _ K2.out];exact sizeE) (En.one _) ?_
    have LF:=hid (Sv.far L5.out GX.out (s2.ag.toList) 0)
    have EF:=hid (EB.setAll Z5.out zeroEn_ok K2.out)
    have PF:=hid (ownB_setCs (g:=gx) GB.out s2.ag.toList 0 _ P5.out)
    have RF:=hid (Own.setCs (g:=gx) GB.out s2.ag.toList 0 _ R5.out)
    obtain⟨WF,hWF⟩: ∃WF,WF=W5.setCells gx 0 s2.ag.toList:=⟨_,rfl⟩
    have EF:=hid (show EB (W5.setCells gx 0 s2.ag.toList) gx s2 from EF.out)
    rw[<-hWF] at LF EF PF RF|-
    clear hWF
    refine hK.out _ _ LF.out (fun _=>?_)
    clear hK K
    refine wpAnyH_take (i:=10) (v:= .slice A3 15 c3) rfl (by kernel_rfl) (by kernel_rfl) (by kernel_rfl) (fun _ _ _ h=>h) (.inl ⟨by rfl,fun W hW=>by(first|rfl|go_simp)⟩) LF.out ?_
    refine wpAnyH_take (i:=11) (v:= .slice A4 80 c4) rfl (by kernel_rfl) (by kernel_rfl) (by kernel_rfl) (fun _ _ _ h=>h) (.inl ⟨by rfl,fun W hW=>by(first|rfl|go_simp)⟩) LF.out ?_
    refine wpAnyH_take (i:=12) (v:= .int .i64 0) rfl (by kernel_rfl) (by kernel_rfl) (by kernel_rfl) (fun _ _ _ h=>h) (.inl ⟨by rfl,fun W hW=>by(first|rfl|go_simp)⟩) LF.out ?_
    refine wpAnyH_done (by kernel_rfl) ?_ _
    go_wp2_with fail
    go_meet
    exact⟨gx,A3,c3,A4,c4,rfl,rfl,rfl,rfl,GX,LF,EF,hid PF.out.reads,hid RF.out.reads,hid (by have h:=PF.out.cap.1;rw[B15.out] at h;exact h)⟩
  ·
   go_simp
   have L2:=hid (Sv.below L1.out ((Below.refl _ _).alloc (Nat.le_refl _) (.cells Tryd.zeroCells32 32)))
   have Z2:=hid (newzeroE W1)
   obtain⟨W2,hW2⟩: ∃W2,W2=W1.alloc (.cells Tryd.zeroCells32 32):=⟨_,rfl⟩
   have Q2:=hid (show Below W1.heap.size W1 W2 from by rw[hW2];exact(Below.refl _ _).alloc (Nat.le_refl _) _)
   rw[<-hW2] at L2 Z2|-
   clear hW2
   obtain⟨gx,hgx⟩: ∃gx,gx=W1.heap.size:=⟨_,rfl⟩
   have GX:=hid (show w.heap.size<=gx from by rw[hgx];exact L1.out.b.size)
   have GE:=hid hgx
   rw[<-hgx] at Z2|-
   clear hgx
   refine hK.out _ _ L2.out (fun _=>?_)
   clear hK K
   refine wpAnyH_ready (rs:=[0,1]) (by kernel_rfl) (by simp) (AllReadyH.cons rfl (fun K hK=>?_) (AllReadyH.cons rfl (fun K hK=>?_) AllReadyH.nil))
   ·
    go_simp
    with_reducible refine(KB.out W2).mono ?_
    rintro e W3 ⟨rfl,hB⟩
    have L3:=hid (Sv.below L2.out hB)
    have Q3:=hid hB
    have Z3:=hid (Blk.below' Z2.out Q3.out)
    clear hB
    go_simp
    refine hK.out _ _ L3.out (fun _=>?_)
    clear hK K
    refine wpAnyH_ready (rs:=[1]) (by kernel_rfl) (by simp) (AllReadyH.cons rfl (fun K hK=>?_) AllReadyH.nil)
    rw[if_pos (by rfl)]
    simp only[Act.put,List.setIfInBounds_toArray,List.set_cons_zero,List.set_cons_succ,List.getElem_toArray,List.getElem_cons_succ,List.getElem_cons_zero]
    refine wp_makeI _ _ rfl .i64 .i64 80 rfl rfl W3.heap.size (by omega) (Nat.le_refl _) ?_
    intro W4 hO hG
    obtain⟨A2,hA2⟩: ∃A2,A2=some (⟨W3.heap.size,0,none⟩:Addr):=⟨_,rfl⟩
    rw[<-hA2] at hO|-
    have Q4:=hid (show Below W3.heap.size W3 W4 from(Below.refl _ _).grown hG (Nat.le_refl _) (by simp))
    have L4:=hid (Sv.below L3.out Q4.out)
    have Z4:=hid (Blk.below' Z3.out Q4.out)
    have O4:=hid (show Rs W4 W4.heap.size A2 (List.replicate 80 0) from hO.reads)
    clear hO hG hA2
    refine hK.out _ _ L4.out (fun _=>?_)
    clear hK K
    refine wpAnyH_ready (rs:=[2]) (by kernel_rfl) (by simp) (AllReadyH.cons rfl (fun K hK=>?_) AllReadyH.nil)
    go_simp
    with_reducible refine(KEn.out W4 _ _ O4.out L4.out).mono ?_
    rintro e W5 ⟨A3,c3,A4,c4,rfl,hP,hR,hB⟩
    have GB:=hid (show gx<W4.heap.size from Blk.lt Z4.out)
    have L5:=hid (Sv.below L4.out hB)
    have Q5:=hid hB
    have O5:=hid ((O4.out.below Q5.out).more Q5.out.size)
    have Z5:=hid (Blk.below' Z4.out Q5.out)
    have P5:=hid hP
    have R5:=hid hR
    clear hP hR hB
    go_simp
    refine hK.out _ _ L5.out (fun _=>?_)
    clear hK K
    refine wpAnyH_take (i:=3) (v:= .tuple #[.agg s2.ag,.slice A3 15 c3,.slice A4 80 c4,.int .i64 0]) rfl (by kernel_rfl) (by kernel_rfl) (by kernel_rfl) (fun _ _ _ h=>h) (.inl ⟨by rfl,fun W hW=>by(first|rfl|go_simp)⟩) L5.out ?_
    refine wpAnyH_take (i:=4) (v:= .agg s2.ag) rfl (by kernel_rfl) (by kernel_rfl) (by kernel_rfl) (fun _ _ _ h=>h) (.inl ⟨by rfl,fun W hW=>by(first|rfl|go_simp)⟩) L5.out ?_
    refine wpAnyH_take (i:=5) (v:= .slice A3 15 c3) rfl (by kernel_rfl) (by kernel_rfl) (by kernel_rfl) (fun _ _ _ h=>h) (.inl ⟨by rfl,fun W hW=>by(first|rfl|go_simp)⟩) L5.out ?_
    refine wpAnyH_take (i:=6) (v:= .slice A4 80 c4) rfl (by kernel_rfl) (by kernel_rfl) (by kernel_rfl) (fun _ _ _ h=>h) (.inl ⟨by rfl,fun W hW=>by(first|rfl|go_simp)⟩) L5.out ?_
    refine wpAnyH_take (i:=7) (v:= .int .i64 0) rfl (by kernel_rfl) (by kernel_rfl) (by kernel_rfl) (fun _ _ _ h=>h) (.inl ⟨by rfl,fun W hW=>by(first|rfl|go_simp)⟩) L5.out ?_
    refine wpAnyH_ready (rs:=[9]) (by kernel_rfl) (by simp) (AllReadyH.cons rfl (fun K hK=>?_) AllReadyH.nil)
    rw[if_pos (by rfl)]
    simp only[Act.put,List.setIfInBounds_toArray,List.set_cons_zero,List.set_cons_succ,List.getElem_toArray,List.getElem_cons_succ,List.getElem_cons_zero]
    refine wp_store_mid 32 (.tmp 1) (.tmp 12) rfl gx 0 s2.ag rfl rfl (by rw[En.size _ K2.out];exact EB.there Z5.out zeroEn_ok) (by rw[En.size _ K2.out];exact sizeE) (En.one _) ?_
    have LF:=hid (Sv.far L5.out GX.out (s2.ag.toList) 0)
    have EF:=hid (EB.setAll Z5.out zeroEn_ok K2.out)
    have PF:=hid (ownB_setCs (g:=gx) GB.out s2.ag.toList 0 _ P5.out)
    have RF:=hid (Own.setCs (g:=gx) GB.out s2.ag.toList 0 _ R5.out)
    obtain⟨WF,hWF⟩: ∃WF,WF=W5.setCells gx 0 s2.ag.toList:=⟨_,rfl⟩
    have EF:=hid (show EB (W5.setCells gx 0 s2.ag.toList) gx s2 from EF.out)
    rw[<-hWF] at LF EF PF RF|-
    clear hWF
    refine hK.out _ _ LF.out (fun _=>?_)
    clear hK K
    refine wpAnyH_take (i:=10) (v:= .slice A3 15 c3) rfl (by kernel_rfl) (by kernel_rfl) (by kernel_rfl) (fun _ _ _ h=>h) (.inl ⟨by rfl,fun W hW=>by(first|rfl|go_simp)⟩) LF.out ?_
    refine wpAnyH_take (i:=11) (v:= .slice A4 80 c4) rfl (by kernel_rfl) (by kernel_rfl) (by kernel_rfl) (fun _ _ _ h=>h) (.inl ⟨by rfl,fun W hW=>by(first|rfl|go_simp)⟩) LF.out ?_
    refine wpAnyH_take (i:=12) (v:= .int .i64 0) rfl (by kernel_rfl) (by kernel_rfl) (by kernel_rfl) (fun _ _ _ h=>h) (.inl ⟨by rfl,fun W hW=>by(first|rfl|go_simp)⟩) LF.out ?_
    refine wpAnyH_done (by kernel_rfl) ?_ _
    go_wp2_with fail
    go_meet
    exact⟨gx,A3,c3,A4,c4,rfl,rfl,rfl,rfl,GX,LF,EF,hid PF.out.reads,hid RF.out.reads,hid (by have h:=PF.out.cap.1;rw[B15.out] at h;exact h)⟩
   ·
    rw[if_pos (by rfl)]
    simp only[Act.put,List.setIfInBounds_toArray,List.set_cons_zero,List.set_cons_succ,List.getElem_toArray,List.getElem_cons_succ,List.getElem_cons_zero]
    refine wp_makeI _ _ rfl .i64 .i64 80 rfl rfl W2.heap.size (by omega) (Nat.le_refl _) ?_
    intro W3 hO hG
    obtain⟨A2,hA2⟩: ∃A2,A2=some (⟨W2.heap.size,0,none⟩:Addr):=⟨_,rfl⟩
    rw[<-hA2] at hO|-
    have Q3:=hid (show Below W2.heap.size W2 W3 from(Below.refl _ _).grown hG (Nat.le_refl _) (by simp))
    have L3:=hid (Sv.below L2.out Q3.out)
    have Z3:=hid (Blk.below' Z2.out Q3.out)
    have O3:=hid (show Rs W3 W3.heap.size A2 (List.replicate 80 0) from hO.reads)
    clear hO hG hA2
    refine hK.out _ _ L3.out (fun _=>?_)
    clear hK K
    refine wpAnyH_ready (rs:=[0]) (by kernel_rfl) (by simp) (AllReadyH.cons rfl (fun K hK=>?_) AllReadyH.nil)
    go_simp
    with_reducible refine(KB.out W3).mono ?_
    rintro e W4 ⟨rfl,hB⟩
    have L4:=hid (Sv.below L3.out hB)
    have Q4:=hid hB
    have O4:=hid ((O3.out.below Q4.out).more Q4.out.size)
    have Z4:=hid (Blk.below' Z3.out Q4.out)
    clear hB
    go_simp
    refine hK.out _ _ L4.out (fun _=>?_)
    clear hK K
    refine wpAnyH_ready (rs:=[2]) (by kernel_rfl) (by simp) (AllReadyH.cons rfl (fun K hK=>?_) AllReadyH.nil)
    go_simp
    with_reducible refine(KEn.out W4 _ _ O4.out L4.out).mono ?_
    rintro e W5 ⟨A3,c3,A4,c4,rfl,hP,hR,hB⟩
    have GB:=hid (show gx<W4.heap.size from Blk.lt Z4.out)
    have L5:=hid (Sv.below L4.out hB)
    have Q5:=hid hB
    have O5:=hid ((O4.out.below Q5.out).more Q5.out.size)
    have Z5:=hid (Blk.below' Z4.out Q5.out)
    have P5:=hid hP
    have R5:=hid hR
    clear hP hR hB
    go_simp
    refine hK.out _ _ L5.out (fun _=>?_)
    clear hK K
    refine wpAnyH_take (i:=3) (v:= .tuple #[.agg s2.ag,.slice A3 15 c3,.slice A4 80 c4,.int .i64 0]) rfl (by kernel_rfl) (by kernel_rfl) (by kernel_rfl) (fun _ _ _ h=>h) (.inl ⟨by rfl,fun W hW=>by(first|rfl|go_simp)⟩) L5.out ?_
    refine wpAnyH_take (i:=4) (v:= .agg s2.ag) rfl (by kernel_rfl) (by kernel_rfl) (by kernel_rfl) (fun _ _ _ h=>h) (.inl ⟨by rfl,fun W hW=>by(first|rfl|go_simp)⟩) L5.out ?_
    refine wpAnyH_take (i:=5) (v:= .slice A3 15 c3) rfl (by kernel_rfl) (by kernel_rfl) (by kernel_rfl) (fun _ _ _ h=>h) (.inl ⟨by rfl,fun W hW=>by(first|rfl|go_simp)⟩) L5.out ?_
    refine wpAnyH_take (i:=6) (v:= .slice A4 80 c4) rfl (by kernel_rfl) (by kernel_rfl) (by kernel_rfl) (fun _ _ _ h=>h) (.inl ⟨by rfl,fun W hW=>by(first|rfl|go_simp)⟩) L5.out ?_
    refine wpAnyH_take (i:=7) (v:= .int .i64 0) rfl (by kernel_rfl) (by kernel_rfl) (by kernel_rfl) (fun _ _ _ h=>h) (.inl ⟨by rfl,fun W hW=>by(first|rfl|go_simp)⟩) L5.out ?_
    refine wpAnyH_ready (rs:=[9]) (by kernel_rfl) (by simp) (AllReadyH.cons rfl (fun K hK=>?_) AllReadyH.nil)
    rw[if_pos (by rfl)]
    simp only[Act.put,List.setIfInBounds_toArray,List.set_cons_zero,List.set_cons_succ,List.getElem_toArray,List.getElem_cons_succ,List.getElem_cons_zero]
    refine wp_store_mid 32 (.tmp 1) (.tmp 12) rfl gx 0 s2.ag rfl rfl (by rw[En.size _ K2.out];exact EB.there Z5.out zeroEn_ok) (by rw[En.size _ K2.out];exact sizeE) (En.one _) ?_
    have LF:=hid (Sv.far L5.out GX.out (s2.ag.toList) 0)
    have EF:=hid (EB.setAll Z5.out zeroEn_ok K2.out)
    have PF:=hid (ownB_setCs (g:=gx) GB.out s2.ag.toList 0 _ P5.out)
    have RF:=hid (Own.setCs (g:=gx) GB.out s2.ag.toList 0 _ R5.out)
    obtain⟨WF,hWF⟩: ∃WF,WF=W5.setCells gx 0 s2.ag.toList:=⟨_,rfl⟩
    have EF:=hid (show EB (W5.setCells gx 0 s2.ag.toList) gx s2 from EF.out)
    rw[<-hWF] at LF EF PF RF|-
    clear hWF
    refine hK.out _ _ LF.out (fun _=>?_)
    clear hK K
    refine wpAnyH_take (i:=10) (v:= .slice A3 15 c3) rfl (by kernel_rfl) (by kernel_rfl) (by kernel_rfl) (fun _ _ _ h=>h) (.inl ⟨by rfl,fun W hW=>by(first|rfl|go_simp)⟩) LF.out ?_
    refine wpAnyH_take (i:=11) (v:= .slice A4 80 c4) rfl (by kernel_rfl) (by kernel_rfl) (by kernel_rfl) (fun _ _ _ h=>h) (.inl ⟨by rfl,fun W hW=>by(first|rfl|go_simp)⟩) LF.out ?_
    refine wpAnyH_take (i:=12) (v:= .int .i64 0) rfl (by kernel_rfl) (by kernel_rfl) (by kernel_rfl) (fun _ _ _ h=>h) (.inl ⟨by rfl,fun W hW=>by(first|rfl|go_simp)⟩) LF.out ?_
    refine wpAnyH_done (by kernel_rfl) ?_ _
    go_wp2_with fail
    go_meet
    exact⟨gx,A3,c3,A4,c4,rfl,rfl,rfl,rfl,GX,LF,EF,hid PF.out.reads,hid RF.out.reads,hid (by have h:=PF.out.cap.1;rw[B15.out] at h;exact h)⟩
 case rest=>
  obtain⟨gx,A3,c3,A4,c4,rfl,rfl,rfl,rfl,GX,LF,EF,PF,RF,CF⟩:=hcut
  have KDe:=hid (fun W A3 c3 (h:Rb W W.heap.size A3 bs) (hc:15<=c3) (hS:Below w.heap.size w W)=>show Calls Tryd.prog 12 #[.agg freshM.ag,.slice A3 15 c3] W (fun e w'=> ∃A5 c5,e= .returned (.tuple #[.agg s2.m.ag,.slice A5 80 c5,.int .i64 0])/\Own w' W.heap.size A5 c5 ys/\Below W.heap.size W w') from by
   have h1:=decode_any enB.m enB_fit.k.m A3 c3 15 bs W (TT.out.1.below hS) (TT.out.2.1.below hS) (TT.out.2.2.below hS) h B15.out hc BYT.out
   unfold NewM at h1
   rw[YS.out.1,YS.out.2.1,YS.out.2.2,Y80.out] at h1
   exact h1)
  have KSa:=hid (fun W A4 c4 A5 c5 (h1:Rs W W.heap.size A4 ys) (h2:Rs W W.heap.size A5 ys)=>topsame_yes A4 A5 c4 c5 80 ys W h1 h2 Y80.out (by omega))
  have HIM2:=hid (show(Tryd.prog.info? 30).map (·.size)=some s2.m.cs.length from by rw[sizeM,s2.m.len K2.out.m])
  have MNE:=hid (fun W=>show(binOp .eql 30 (.agg s2.m.ag) (.agg s2.m.cs.toArray)).run Tryd.prog W= .ok (.bool true) W from run_eql_mem s2.m K2.out.m W)
  clear KEn YS S0 KB
  go_wp2_with fail
  with_reducible refine(KFr.out wc).mono ?_
  rintro e w7 ⟨rfl,hB⟩
  have S7:=hid (LF.out.below hB)
  have E7:=hid (Blk.below' EF.out hB)
  have R7:=hid ((RF.out.below hB).more hB.size)
  have P7:=hid ((PF.out.below hB).more hB.size)
  clear hB LF EF RF PF KFr
  go_wp2_with fail
  with_reducible refine(KDe.out w7 A3 c3 P7.out CF.out S7.out.b).mono ?_
  rintro e w8 ⟨A5,c5,rfl,hO,hB⟩
  have S8:=hid (S7.out.below hB)
  have E8:=hid (Blk.below' E7.out hB)
  have R8:=hid ((R7.out.below hB).more hB.size)
  have O8:=hid hO.reads
  clear hO hB S7 E7 R7 P7 CF KDe
  have BB:=below_stored w8 (.cells Tryd.zeroCells30 30) s2.m.ag
  have S9:=hid (S8.out.below BB)
  have E9:=hid (Blk.below' E8.out BB)
  have R9:=hid ((R8.out.below BB).more BB.size)
  have O9:=hid ((O8.out.below BB).more BB.size)
  have M9:=hid (MB.setRow (newzero w8) s2.m)
  obtain⟨V9,hV9⟩: ∃V9,V9=(w8.alloc (.cells Tryd.zeroCells30 30)).setRow w8.heap.size s2.m.ag:=⟨_,rfl⟩
  rw[<-hV9] at S9 E9 R9 O9 M9
  have HV9:=hid hV9
  clear hV9 BB S8 E8 R8 O8
  have MNE:=MNE.out
  go_wp2_with (first
   |(refine wpList_storeM rfl (.tmp 5) (.tmp 20) rfl _ zeroM s2.m rfl rfl (newzero w8) zeroM_ok K2.out.m ?_;rw[<-HV9.out];clear HV9)
   |(go_at_call 13;(with_reducible refine(KSa.out V9 A4 c4 A5 c5 R9.out O9.out).mono ?_);rintro e w10 ⟨rfl,hB⟩;have S10:=hid (S9.out.below hB);have E10:=hid (Blk.below' E9.out hB);have M10:=hid (Blk.below' M9.out hB);have cse:=MB.cse M10.out K2.out.m;rw[SE.out] at cse;clear hB)
   |(refine wpList_loadM rfl (.tmp 5) rfl _ s2.m rfl M10.out K2.out.m ?_)
   |(refine wpList_load_midW rfl 30 (.tmp 41) rfl gx 124 rfl s2.m.cs _ (EB.M E10.out K2.out) Tryd.underlying30 rfl HIM2.out ?_))
  go_ret
  exact⟨rfl,S10.out.b⟩
end Go.Proofs.YthoiikkjjaldnaaDoor
