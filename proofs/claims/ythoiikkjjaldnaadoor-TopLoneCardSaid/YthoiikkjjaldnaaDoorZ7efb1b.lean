/- Texts that the law rests on, laid together: DkC. -/
import Derived.Test.YthoiikkjjaldnaaDoorZ580eeb
set_option maxHeartbeats 4000000
namespace Go.Proofs.YthoiikkjjaldnaaDoor
set_option linter.unusedVariables false
set_option linter.unusedSimpArgs false
set_option maxRecDepth 100000
open Go.RowKit
structure Xc (w W:World) (gK gM:Nat) (q:Cq):Prop where
 C:Blk W w.heap.size 56 q.cs
 K:Blk W gK 99 #[.map (some gM)]
theorem Xc.c1 {w W:World} {gK gM:Nat} {q:Cq} (h:Xc w W gK gM q):W.cell? ⟨w.heap.size,1,none⟩=some (.int .i64 q.v):=Blk.cell h.C 1
theorem deskDo_close (gK gM n:Nat) (D:DataW Unit) (g:Nat) (e:En) (m:Mm) (q:Cq) (w:World)
 (hD:Dd w gK gM n D) (hL:LB w g e m) (ke:e.ok) (km:m.ok) (hv: -9223372036854775808<=q.v/\q.v<=9223372036854775807)
 (hhas:Maps.has D (keyL q.v)=true) (hat:D.atKey (keyL q.v) .nil= .lit (.int .i64 (g:Nat))) (hk:q.k=5) (hgd:gK<w.heap.size/\gM<w.heap.size):
 Calls Tryd.prog 18 #[.pointer (some ⟨gK,0,none⟩),.agg #[.int .i64 q.k,.int .i64 q.v,.bool q.r,.slice q.A q.n q.c,.slice q.A2 q.n2 q.c2]] w (fun x w'=>x= .returned (.agg (ansC 0 q.v none 0 0 none 0 0))/\Dd w' gK gM n (D.del (keyL q.v))/\w.grownBy w' (some gM)):=by
 have HGD:=hid hgd
 have HV:=hid hv
 have hR:=results_any1 (fn:=Tryd.f18) (p:=4) (ty:=58) rfl
 have S0:=hid (Dj.start w q hD hL)
 obtain⟨V0,hV0⟩: ∃V0,V0=(((w.alloc (.cells #[.int .i64 q.k,.int .i64 q.v,.bool q.r,.slice q.A q.n q.c,.slice q.A2 q.n2 q.c2] 56)).alloc (.cells #[.int .i64 0,.int .i64 0,.slice none 0 0,.slice none 0 0] 58)).alloc (.cells #[.int .i64 0,.int .i64 q.v,.slice none 0 0,.slice none 0 0] 58)):=⟨_,rfl⟩
 rw[<-hV0] at S0
 have HV0:=hV0.symm
 have KE:=hid ke
 have KM:=hid km
 have hrun:=(S0.out.D.below ((Below.refl _ _).drew)).M.hit hv hhas hat
 have k1:=S0.out.c0
 have k2:=S0.out.c1
 have k3:V0.cell? ⟨gK,0,none⟩=some (.map (some gM)):=Blk.cell S0.out.D.K 0
 clear hV0 hD hL ke km
 rw[hk] at HV0 k1|-
 have HVx:=hid HV0
 clear HV0
 go_enter Tryd.func18,Tryd.ntmps18
 go_upto_region 8 with fail
 rw[HVx.out]
 go_region
 have S1:=hid (S0.out.below ((Below.refl _ _).drew))
 obtain⟨V1,hV1⟩: ∃V1,V1=World.drew V0:=⟨_,rfl⟩
 rw[<-hV1] at S1|-
 clear k1 k2 k3 hrun hV1 S0
 have k1:=S1.out.c0
 rw[hk] at k1
 go_upto_region 29 with fail
 refine wp_region_held (S:=fun W=>Xc w W gK gM q) (by kernel_rfl) ?_
 have S2:=hid (S1.out.below ((Below.refl _ _).drew))
 change wpAnyH _ _ _ _ _ _ _ _ (World.drew _)
 obtain⟨W1,hW1⟩: ∃W1,W1=World.drew V1:=⟨_,rfl⟩
 rw[<-hW1] at S2|-
 clear hW1 S1 k1
 have X1:=hid (⟨S2.out.C,S2.out.D.K⟩:Xc w W1 gK gM q)
 refine wpAnyH_take (i:=0) (v:= .pointer (some ⟨gK,0,none⟩)) rfl (by kernel_rfl) (by kernel_rfl) (by kernel_rfl) (fun _ _ _ h=>h) (.inl ⟨by rfl,fun W hW=>by go_simp⟩) X1.out ?_
 refine wpAnyH_take (i:=1) (v:= .pointer (some ⟨gK,0,none⟩)) rfl (by kernel_rfl) (by kernel_rfl) (by kernel_rfl) (fun _ _ _ h=>h) (.inl ⟨by rfl,fun W hW=>by go_simp⟩) X1.out ?_
 refine wpAnyH_take (i:=2) (v:= .pointer (some ⟨gK,0,none⟩)) rfl (by kernel_rfl) (by kernel_rfl) (by kernel_rfl) (fun _ _ _ h=>h) (.inl ⟨by rfl,fun W hW=>by go_simp⟩) X1.out ?_
 refine wpAnyH_take (i:=3) (v:= .map (some gM)) rfl (by kernel_rfl) (by kernel_rfl) (by kernel_rfl) (fun _ _ _ h=>h) (.inl ⟨by rfl,fun W hW=>by have h:=Blk.cell hW.K 0;go_simp⟩) X1.out ?_
 refine wpAnyH_take (i:=4) (v:= .pointer (some ⟨w.heap.size,1,none⟩)) rfl (by kernel_rfl) (by kernel_rfl) (by kernel_rfl) (fun _ _ _ h=>h) (.inl ⟨by rfl,fun W hW=>by go_simp⟩) X1.out ?_
 refine wpAnyH_take (i:=5) (v:= .int .i64 q.v) rfl (by kernel_rfl) (by kernel_rfl) (by kernel_rfl) (fun _ _ _ h=>h) (.inl ⟨by rfl,fun W hW=>by have h:=hW.c1;go_simp⟩) X1.out ?_
 refine wpAnyH_ready (rs:=[6]) (by kernel_rfl) (by simp) (AllReadyH.cons rfl (fun K hK=>?_) AllReadyH.nil)
 have hdel:=fun ty=>S2.out.D.M.del HV.out ty
 obtain⟨W5,hrun,hM,hT⟩:=hdel 0
 have M5:=hid hM
 have G5:=hid (World.mapTurned.grown hT)
 clear hM hT hdel
 go_simp
 have kp: ∀b (o:Obj),b<W1.heap.size->b≠gM->W1.heap[b]?=some o->W5.heap[b]?=some o:=fun b o hb hne h=>(G5.out.block b hb (fun x=>hne (Option.some.inj x))).trans h
 have C5:=hid (show Blk W5 w.heap.size 56 q.cs from kp _ _ (Blk.lt S2.out.C) (by have:=HGD.out;omega) S2.out.C)
 have R5:=hid (show Blk W5 (w.heap.size+1) 58 (ansC 0 0 none 0 0 none 0 0) from kp _ _ (Blk.lt S2.out.R) (by have:=HGD.out;omega) S2.out.R)
 have T5:=hid (show Blk W5 (w.heap.size+1+1) 58 (ansC 0 q.v none 0 0 none 0 0) from kp _ _ (Blk.lt S2.out.T) (by have:=HGD.out;omega) S2.out.T)
 have K5:=hid (show Blk W5 gK 99 #[.map (some gM)] from kp _ _ (Blk.lt S2.out.D.K) S2.out.D.ne S2.out.D.K)
 have G6:=hid (show w.grownBy W5 (some gM) from⟨G5.out.os.trans S2.out.bel.os,G5.out.tape.trans S2.out.bel.tape,G5.out.output.trans S2.out.bel.output,Nat.le_trans S2.out.bel.size G5.out.size,fun i hi hne=>(G5.out.block i (Nat.lt_of_lt_of_le hi S2.out.bel.size) hne).trans (S2.out.bel.block i hi)⟩)
 clear hrun kp
 refine hK.out _ _ (⟨C5.out,K5.out⟩:Xc w W5 gK gM q) (fun _=>?_)
 clear hK K
 refine wpAnyH_done (by kernel_rfl) ?_ _
 go_wp2_with (first
  |(refine wpList_loadC rfl 58 (.tmp 5) rfl _ 58 _ _ rfl T5.out Tryd.underlying58 rfl sizeAns ?_)
  |(refine wpList_storeC rfl 58 (.tmp 4) (.tmp 133) rfl _ 58 _ (ansC 0 q.v none 0 0 none 0 0) rfl rfl R5.out sizeAns rfl (one_ans _ _ _ _ _ _ _ _) ?_))
 refine bodyPost_ret (v:=_) (hR _ _ _ _ _ rfl (Blk.setRow_ R5.out _) Tryd.underlying58 rfl sizeAns) rfl ?_
 exact⟨rfl,(⟨K5.out,M5.out⟩:Dd W5 gK gM n (D.del (keyL q.v))).row (by have:=HGD.out;omega) (by have:=HGD.out;omega) _,⟨G6.out.os,G6.out.tape,G6.out.output,Nat.le_trans G6.out.size (by simp[World.setRow]),fun i hi hne=>(setRow_other _ _ i _ (by omega)).trans (G6.out.block i hi hne)⟩⟩
structure Di (w W:World) (gK gM n:Nat) (D:DataW Unit) (q:Cq):Prop where
 C:Blk W w.heap.size 56 q.cs
 R:Blk W (w.heap.size+1) 58 (ansC 0 0 none 0 0 none 0 0)
 T:Blk W (w.heap.size+1+1) 58 (ansC 0 q.v none 0 0 none 0 0)
 D:Dd W gK gM n D
 bel:Below w.heap.size w W
theorem Di.below {w W W':World} {gK gM n:Nat} {D:DataW Unit} {q:Cq} (h:Di w W gK gM n D q) (hb:Below W.heap.size W W'):Di w W' gK gM n D q:=⟨Blk.below' h.C hb,Blk.below' h.R hb,Blk.below' h.T hb,h.D.below hb,h.bel.trans (hb.mono h.bel.size)⟩
theorem Di.c0 {w W:World} {gK gM n:Nat} {D:DataW Unit} {q:Cq} (h:Di w W gK gM n D q):W.cell? ⟨w.heap.size,0,none⟩=some (.int .i64 q.k):=Blk.cell h.C 0
theorem Di.c1 {w W:World} {gK gM n:Nat} {D:DataW Unit} {q:Cq} (h:Di w W gK gM n D q):W.cell? ⟨w.heap.size,1,none⟩=some (.int .i64 q.v):=Blk.cell h.C 1
theorem Di.start {gK gM n:Nat} {D:DataW Unit} (w:World) (q:Cq) (hD:Dd w gK gM n D):
 Di w (((w.alloc (.cells #[.int .i64 q.k,.int .i64 q.v,.bool q.r,.slice q.A q.n q.c,.slice q.A2 q.n2 q.c2] 56)).alloc (.cells #[.int .i64 0,.int .i64 0,.slice none 0 0,.slice none 0 0] 58)).alloc (.cells #[.int .i64 0,.int .i64 q.v,.slice none 0 0,.slice none 0 0] 58)) gK gM n D q:=by
 have h1:=Blk.new w 56 #[.int .i64 q.k,.int .i64 q.v,.bool q.r,.slice q.A q.n q.c,.slice q.A2 q.n2 q.c2]
 have h2:=Blk.new (w.alloc (.cells #[.int .i64 q.k,.int .i64 q.v,.bool q.r,.slice q.A q.n q.c,.slice q.A2 q.n2 q.c2] 56)) 58 #[.int .i64 0,.int .i64 0,.slice none 0 0,.slice none 0 0]
 have h3:=Blk.new ((w.alloc (.cells #[.int .i64 q.k,.int .i64 q.v,.bool q.r,.slice q.A q.n q.c,.slice q.A2 q.n2 q.c2] 56)).alloc (.cells #[.int .i64 0,.int .i64 0,.slice none 0 0,.slice none 0 0] 58)) 58 #[.int .i64 0,.int .i64 q.v,.slice none 0 0,.slice none 0 0]
 simp only[World.size_alloc] at h2 h3
 have hb:=(((Below.refl w.heap.size w).alloc (Nat.le_refl _) (.cells #[.int .i64 q.k,.int .i64 q.v,.bool q.r,.slice q.A q.n q.c,.slice q.A2 q.n2 q.c2] 56)).alloc (by simp) (.cells #[.int .i64 0,.int .i64 0,.slice none 0 0,.slice none 0 0] 58)).alloc (by simp;omega) (.cells #[.int .i64 0,.int .i64 q.v,.slice none 0 0,.slice none 0 0] 58)
 exact⟨Blk.alloc (Blk.alloc h1 _) _,Blk.alloc h2 _,h3,hD.below hb,hb⟩
theorem deskDo_open (gK gM n:Nat) (D:DataW Unit) (q:Cq) (w:World) (hD:Dd w gK gM n D) (hv: -9223372036854775808<=q.v/\q.v<=9223372036854775807)
 (hhas:Maps.has D (keyL q.v)=false) (hk:q.k=1) (hgd:gK<w.heap.size/\gM<w.heap.size) (h0:dkOp D q.v false=0) (hn:n<maxLen):
 Calls Tryd.prog 18 #[.pointer (some ⟨gK,0,none⟩),.agg #[.int .i64 q.k,.int .i64 q.v,.bool q.r,.slice q.A q.n q.c,.slice q.A2 q.n2 q.c2]] w (fun x w'=> ∃g,x= .returned (.agg (ansC 0 q.v none 0 0 none 0 0))/\w.heap.size<=g/\Dd w' gK gM (n+1) (D.put (keyL q.v) (.lit (.int .i64 (g:Nat))))/\LB w' g enB freshM/\w.grownBy w' (some gM)):=by
 have HGD:=hid hgd
 have HV:=hid hv
 have hR:=results_any1 (fn:=Tryd.f18) (p:=4) (ty:=58) rfl
 have S0:=hid (Di.start w q hD)
 obtain⟨V0,hV0⟩: ∃V0,V0=(((w.alloc (.cells #[.int .i64 q.k,.int .i64 q.v,.bool q.r,.slice q.A q.n q.c,.slice q.A2 q.n2 q.c2] 56)).alloc (.cells #[.int .i64 0,.int .i64 0,.slice none 0 0,.slice none 0 0] 58)).alloc (.cells #[.int .i64 0,.int .i64 q.v,.slice none 0 0,.slice none 0 0] 58)):=⟨_,rfl⟩
 rw[<-hV0] at S0
 have HV0:=hV0.symm
 have hrun:=(S0.out.D.below ((Below.refl _ _).drew)).M.miss hv hhas
 have k1:=S0.out.c0
 have k2:=S0.out.c1
 have k3:V0.cell? ⟨gK,0,none⟩=some (.map (some gM)):=Blk.cell S0.out.D.K 0
 have KO:=hid (fun W (h:Dd W gK gM n D)=>deskOpen_yes gK gM n D q.v false W h hv h0 hn)
 clear hV0 hD h0 hn
 rw[hk] at HV0 k1|-
 have HVx:=hid HV0
 clear HV0
 go_enter Tryd.func18,Tryd.ntmps18
 go_upto_region 8 with fail
 rw[HVx.out]
 go_region
 have S1:=hid (S0.out.below ((Below.refl _ _).drew))
 obtain⟨V1,hV1⟩: ∃V1,V1=World.drew V0:=⟨_,rfl⟩
 rw[<-hV1] at S1|-
 clear k1 k2 k3 hrun hV1 S0
 have k1:=S1.out.c0
 have k2:=S1.out.c1
 rw[hk] at k1
 go_wp2_with fail
 with_reducible refine(KO.out V1 S1.out.D).mono ?_
 rintro x w2 ⟨g,rfl,hg,hDD,hLL,hG⟩
 have D2:=hid hDD
 have L2:=hid hLL
 have G2:=hid hG
 have GL:=hid (show w.heap.size<=g/\w.heap.size+3<=g from by have h1:w.heap.size+1+1<V1.heap.size:=Blk.lt S1.out.T;omega)
 clear hg hDD hLL hG k1 k2 KO
 have kp: ∀b (o:Obj),b<V1.heap.size->b≠gM->V1.heap[b]?=some o->w2.heap[b]?=some o:=fun b o hb hne h=>(G2.out.block b hb (fun x=>hne (Option.some.inj x))).trans h
 have R5:=hid (show Blk w2 (w.heap.size+1) 58 (ansC 0 0 none 0 0 none 0 0) from kp _ _ (Blk.lt S1.out.R) (by have:=HGD.out;omega) S1.out.R)
 have T5:=hid (show Blk w2 (w.heap.size+1+1) 58 (ansC 0 q.v none 0 0 none 0 0) from kp _ _ (Blk.lt S1.out.T) (by have:=HGD.out;omega) S1.out.T)
 have G6:=hid (show w.grownBy w2 (some gM) from⟨G2.out.os.trans S1.out.bel.os,G2.out.tape.trans S1.out.bel.tape,G2.out.output.trans S1.out.bel.output,Nat.le_trans S1.out.bel.size G2.out.size,fun i hi hne=>(G2.out.block i (Nat.lt_of_lt_of_le hi S1.out.bel.size) hne).trans (S1.out.bel.block i hi)⟩)
 clear kp
 have t0:=Blk.cell T5.out 0
 have f0:=Blk.frozen T5.out 0
 have T6:=hid (show Blk (w2.setCell ⟨w.heap.size+1+1,0,none⟩ (.int .i64 0)) (w.heap.size+1+1) 58 (ansC 0 q.v none 0 0 none 0 0) from Blk.set_ T5.out 0 (.int .i64 0))
 have R6:=hid (Blk.far R5.out (p:=⟨w.heap.size+1+1,0,none⟩) (by show w.heap.size+1≠w.heap.size+1+1;omega) (.int .i64 0))
 have D6:=hid (D2.out.far (b:=w.heap.size+1+1) (by have:=HGD.out;omega) (by have:=HGD.out;omega) [.int .i64 0] 0)
 have L6:=hid (show LB (w2.setCell ⟨w.heap.size+1+1,0,none⟩ (.int .i64 0)) g enB freshM from Blk.far L2.out (p:=⟨w.heap.size+1+1,0,none⟩) (by have:=GL.out;show g≠w.heap.size+1+1;omega) (.int .i64 0))
 have D6:=hid (show Dd (w2.setCell ⟨w.heap.size+1+1,0,none⟩ (.int .i64 0)) gK gM (n+1) _ from D6.out)
 have G7:=hid (show w.grownBy (w2.setCell ⟨w.heap.size+1+1,0,none⟩ (.int .i64 0)) (some gM) from⟨G6.out.os,G6.out.tape,G6.out.output,Nat.le_trans G6.out.size (by simp[World.setCell]),fun i hi hne=>(Below.heap_setCell _ _ _ i (by show i≠w.heap.size+1+1;omega)).trans (G6.out.block i hi hne)⟩)
 obtain⟨V6,hV6⟩: ∃V6,V6=w2.setCell ⟨w.heap.size+1+1,0,none⟩ (.int .i64 0):=⟨_,rfl⟩
 rw[<-hV6] at T6 R6 D6 L6 G7
 have HV6:=hid hV6.symm
 clear hV6
 go_wp2_with (first
  |(rw[HV6.out];clear HV6 t0 f0)
  |(refine wpList_loadC rfl 58 (.tmp 5) rfl _ 58 _ _ rfl T6.out Tryd.underlying58 rfl sizeAns ?_)
  |(refine wpList_storeC rfl 58 (.tmp 4) (.tmp 51) rfl _ 58 _ (ansC 0 q.v none 0 0 none 0 0) rfl rfl R6.out sizeAns rfl (one_ans _ _ _ _ _ _ _ _) ?_))
 refine bodyPost_ret (v:=_) (hR _ _ _ _ _ rfl (Blk.setRow_ R6.out _) Tryd.underlying58 rfl sizeAns) rfl ?_
 exact⟨g,rfl,GL.out.1,D6.out.row (by have:=HGD.out;omega) (by have:=HGD.out;omega) _,Blk.rowFar L6.out (by have:=GL.out;omega),⟨G7.out.os,G7.out.tape,G7.out.output,Nat.le_trans G7.out.size (by simp[World.setRow]),fun i hi hne=>(setRow_other _ _ i _ (by omega)).trans (G7.out.block i hi hne)⟩⟩
end Go.Proofs.YthoiikkjjaldnaaDoor
