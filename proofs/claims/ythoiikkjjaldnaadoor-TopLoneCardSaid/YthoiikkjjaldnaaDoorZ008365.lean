/- Texts that the law rests on, laid together: DkZ, CallA, TopC. -/
import Derived.Test.YthoiikkjjaldnaaDoorZ7efb1b
import Derived.Test.YthoiikkjjaldnaaDoorZd03041
import Derived.Test.YthoiikkjjaldnaaDoorZbfb2ae
import Derived.Test.YthoiikkjjaldnaaDoorZa172bc
import Derived.Test.YthoiikkjjaldnaaDoorZ7e0d48
import Derived.Test.YthoiikkjjaldnaaDoorZ85a238
set_option maxHeartbeats 4000000
namespace Go.Proofs.YthoiikkjjaldnaaDoor
set_option linter.unusedVariables false
set_option linter.unusedSimpArgs false
set_option maxRecDepth 100000
open Go.RowKit
theorem deskDo_none (gK gM n:Nat) (D:DataW Unit) (q:Cq) (w:World) (hD:Dd w gK gM n D) (hv: -9223372036854775808<=q.v/\q.v<=9223372036854775807)
 (hhas:Maps.has D (keyL q.v)=false) (hk:2<=q.k/\q.k<=5) (hgd:gK<w.heap.size/\gM<w.heap.size):
 Calls Tryd.prog 18 #[.pointer (some ⟨gK,0,none⟩),.agg #[.int .i64 q.k,.int .i64 q.v,.bool q.r,.slice q.A q.n q.c,.slice q.A2 q.n2 q.c2]] w (fun x w'=>x= .returned (.agg (ansC 6 q.v none 0 0 none 0 0))/\Dd w' gK gM n D/\Below w.heap.size w w'):=by
 have HGD:=hid hgd
 have hR:=results_any1 (fn:=Tryd.f18) (p:=4) (ty:=58) rfl
 have S0:=hid (Di.start w q hD)
 obtain⟨V0,hV0⟩: ∃V0,V0=(((w.alloc (.cells #[.int .i64 q.k,.int .i64 q.v,.bool q.r,.slice q.A q.n q.c,.slice q.A2 q.n2 q.c2] 56)).alloc (.cells #[.int .i64 0,.int .i64 0,.slice none 0 0,.slice none 0 0] 58)).alloc (.cells #[.int .i64 0,.int .i64 q.v,.slice none 0 0,.slice none 0 0] 58)):=⟨_,rfl⟩
 rw[<-hV0] at S0
 have HV0:=hV0.symm
 have hrun:=(S0.out.D.below ((Below.refl _ _).drew)).M.miss hv hhas
 have k1:=S0.out.c0
 have k2:=S0.out.c1
 have k3:V0.cell? ⟨gK,0,none⟩=some (.map (some gM)):=Blk.cell S0.out.D.K 0
 have HVx:=hid HV0
 clear hV0 hD HV0
 have b1:decide (q.k<1)=false:=by simp;omega
 have b2:decide (5<q.k)=false:=by simp;omega
 have b3:(q.k==1)=false:=by simp;omega
 go_enter Tryd.func18,Tryd.ntmps18
 go_upto_region 8 with fail
 rw[HVx.out]
 go_region
 have S1:=hid (S0.out.below ((Below.refl _ _).drew))
 obtain⟨V1,hV1⟩: ∃V1,V1=World.drew V0:=⟨_,rfl⟩
 rw[<-hV1] at S1|-
 clear k1 k2 k3 hrun hV1 S0
 have k1:=S1.out.c0
 have t0:=Blk.cell S1.out.T 0
 have f0:=Blk.frozen S1.out.T 0
 have T6:=hid (show Blk (V1.setCell ⟨w.heap.size+1+1,0,none⟩ (.int .i64 6)) (w.heap.size+1+1) 58 (ansC 6 q.v none 0 0 none 0 0) from Blk.set_ S1.out.T 0 (.int .i64 6))
 have R6:=hid (Blk.far S1.out.R (p:=⟨w.heap.size+1+1,0,none⟩) (by show w.heap.size+1≠w.heap.size+1+1;omega) (.int .i64 6))
 have D6:=hid (S1.out.D.far (b:=w.heap.size+1+1) (by have:=HGD.out;omega) (by have:=HGD.out;omega) [.int .i64 6] 0)
 have D6:=hid (show Dd (V1.setCell ⟨w.heap.size+1+1,0,none⟩ (.int .i64 6)) gK gM n D from D6.out)
 have B6:=hid (S1.out.bel.setCell (p:=⟨w.heap.size+1+1,0,none⟩) (by show w.heap.size<=w.heap.size+1+1;omega) (.int .i64 6))
 obtain⟨V6,hV6⟩: ∃V6,V6=V1.setCell ⟨w.heap.size+1+1,0,none⟩ (.int .i64 6):=⟨_,rfl⟩
 rw[<-hV6] at T6 R6 D6 B6
 have HV6:=hid hV6.symm
 clear hV6
 go_wp2_with (first
  |(rw[HV6.out];clear HV6 t0 f0)
  |(refine wpList_loadC rfl 58 (.tmp 5) rfl _ 58 _ _ rfl T6.out Tryd.underlying58 rfl sizeAns ?_)
  |(refine wpList_storeC rfl 58 (.tmp 4) (.tmp 55) rfl _ 58 _ (ansC 6 q.v none 0 0 none 0 0) rfl rfl R6.out sizeAns rfl (one_ans _ _ _ _ _ _ _ _) ?_))
 refine bodyPost_ret (v:=_) (hR _ _ _ _ _ rfl (Blk.setRow_ R6.out _) Tryd.underlying58 rfl sizeAns) rfl ?_
 exact⟨rfl,D6.out.row (by have:=HGD.out;omega) (by have:=HGD.out;omega) _,below_setRow B6.out (by omega) _⟩
theorem deskDo_kind (gK gM n:Nat) (D:DataW Unit) (q:Cq) (w:World) (hD:Dd w gK gM n D) (hk:q.k<1\/5<q.k):
 Calls Tryd.prog 18 #[.pointer (some ⟨gK,0,none⟩),.agg #[.int .i64 q.k,.int .i64 q.v,.bool q.r,.slice q.A q.n q.c,.slice q.A2 q.n2 q.c2]] w (fun x w'=>x= .returned (.agg (ansC 4 q.v none 0 0 none 0 0))/\Dd w' gK gM n D/\Below w.heap.size w w'):=by
 have hR:=results_any1 (fn:=Tryd.f18) (p:=4) (ty:=58) rfl
 have BF:=hid ((((Below.refl w.heap.size w).alloc (Nat.le_refl _) (.cells #[.int .i64 q.k,.int .i64 q.v,.bool q.r,.slice q.A q.n q.c,.slice q.A2 q.n2 q.c2] 56)).alloc (by simp) (.cells (ansC 4 q.v none 0 0 none 0 0) 58)).alloc (by simp;omega) (.cells (ansC 4 q.v none 0 0 none 0 0) 58))
 have Z0:=Blk.new (w.alloc (.cells #[.int .i64 q.k,.int .i64 q.v,.bool q.r,.slice q.A q.n q.c,.slice q.A2 q.n2 q.c2] 56)) 58 (ansC 4 q.v none 0 0 none 0 0)
 simp only[World.size_alloc] at Z0
 have RF:=hid (Blk.alloc Z0 (.cells (ansC 4 q.v none 0 0 none 0 0) 58))
 have DF:=hid (hD.below BF.out)
 clear Z0 hD
 have hk2:(q.k<1)\/(¬q.k<1/\5<q.k):=by omega
 rcases hk2 with h|⟨h1,h2⟩
 ·have b1:decide (q.k<1)=true:=by simpa using h
  go_enter Tryd.func18,Tryd.ntmps18
  go_wp2_with fail
  refine bodyPost_ret (v:=_) (hR _ _ _ _ _ rfl RF.out Tryd.underlying58 rfl sizeAns) rfl ?_
  exact⟨rfl,DF.out,BF.out⟩
 ·have b1:decide (q.k<1)=false:=by simpa using h1
  have b2:decide (5<q.k)=true:=by simpa using h2
  go_enter Tryd.func18,Tryd.ntmps18
  go_wp2_with fail
  refine bodyPost_ret (v:=_) (hR _ _ _ _ _ rfl RF.out Tryd.underlying58 rfl sizeAns) rfl ?_
  exact⟨rfl,DF.out,BF.out⟩
theorem deskDo_open_no (gK gM n:Nat) (D:DataW Unit) (q:Cq) (w:World) (hD:Dd w gK gM n D) (hv: -9223372036854775808<=q.v/\q.v<=9223372036854775807)
 (hhas:Maps.has D (keyL q.v)=false) (hk:q.k=1) (hgd:gK<w.heap.size/\gM<w.heap.size) (h0:dkOp D q.v false≠0):
 Calls Tryd.prog 18 #[.pointer (some ⟨gK,0,none⟩),.agg #[.int .i64 q.k,.int .i64 q.v,.bool q.r,.slice q.A q.n q.c,.slice q.A2 q.n2 q.c2]] w (fun x w'=>x= .returned (.agg (ansC (dkOp D q.v false) q.v none 0 0 none 0 0))/\Dd w' gK gM n D/\Below w.heap.size w w'):=by
 have HGD:=hid hgd
 have hR:=results_any1 (fn:=Tryd.f18) (p:=4) (ty:=58) rfl
 have S0:=hid (Di.start w q hD)
 obtain⟨V0,hV0⟩: ∃V0,V0=(((w.alloc (.cells #[.int .i64 q.k,.int .i64 q.v,.bool q.r,.slice q.A q.n q.c,.slice q.A2 q.n2 q.c2] 56)).alloc (.cells #[.int .i64 0,.int .i64 0,.slice none 0 0,.slice none 0 0] 58)).alloc (.cells #[.int .i64 0,.int .i64 q.v,.slice none 0 0,.slice none 0 0] 58)):=⟨_,rfl⟩
 rw[<-hV0] at S0
 have HV0:=hV0.symm
 have hrun:=(S0.out.D.below ((Below.refl _ _).drew)).M.miss hv hhas
 have k1:=S0.out.c0
 have k2:=S0.out.c1
 have k3:V0.cell? ⟨gK,0,none⟩=some (.map (some gM)):=Blk.cell S0.out.D.K 0
 have KO:=hid (fun W (h:Dd W gK gM n D)=>deskOpen_no gK gM n D q.v false W h h0)
 clear hV0 hD h0
 generalize dkOp D q.v false=cd at*
 rw[hk] at HV0 k1|-
 have HVx:=hid HV0
 clear HV0
 go_enter Tryd.func18,Tryd.ntmps18
 go_upto_region 8 with fail
 rw[HVx.out]
 go_region
 have S1:=hid (S0.out.below ((Below.refl _ _).drew))
 obtain⟨V1,hV1⟩: ∃V1,V1=World.drew V0:=⟨_,rfl⟩
 rw[<-hV1] at S1|-
 clear k1 k2 k3 hrun hV1 S0
 have k1:=S1.out.c0
 have k2:=S1.out.c1
 rw[hk] at k1
 go_wp2_with fail
 with_reducible refine(KO.out V1 S1.out.D).mono ?_
 rintro x w2 ⟨rfl,rfl⟩
 have t0:=Blk.cell S1.out.T 0
 have f0:=Blk.frozen S1.out.T 0
 have T6:=hid (show Blk (V1.setCell ⟨w.heap.size+1+1,0,none⟩ (.int .i64 cd)) (w.heap.size+1+1) 58 (ansC cd q.v none 0 0 none 0 0) from Blk.set_ S1.out.T 0 (.int .i64 cd))
 have R6:=hid (Blk.far S1.out.R (p:=⟨w.heap.size+1+1,0,none⟩) (by show w.heap.size+1≠w.heap.size+1+1;omega) (.int .i64 cd))
 have D6:=hid (S1.out.D.far (b:=w.heap.size+1+1) (by have:=HGD.out;omega) (by have:=HGD.out;omega) [.int .i64 cd] 0)
 have D6:=hid (show Dd (V1.setCell ⟨w.heap.size+1+1,0,none⟩ (.int .i64 cd)) gK gM n D from D6.out)
 have B6:=hid (S1.out.bel.setCell (p:=⟨w.heap.size+1+1,0,none⟩) (by show w.heap.size<=w.heap.size+1+1;omega) (.int .i64 cd))
 obtain⟨V6,hV6⟩: ∃V6,V6=V1.setCell ⟨w.heap.size+1+1,0,none⟩ (.int .i64 cd):=⟨_,rfl⟩
 rw[<-hV6] at T6 R6 D6 B6
 have HV6:=hid hV6.symm
 clear hV6 k1 k2
 go_wp2_with (first
  |(rw[HV6.out];clear HV6 t0 f0)
  |(refine wpList_loadC rfl 58 (.tmp 5) rfl _ 58 _ _ rfl T6.out Tryd.underlying58 rfl sizeAns ?_)
  |(refine wpList_storeC rfl 58 (.tmp 4) (.tmp 51) rfl _ 58 _ (ansC cd q.v none 0 0 none 0 0) rfl rfl R6.out sizeAns rfl (one_ans _ _ _ _ _ _ _ _) ?_))
 refine bodyPost_ret (v:=_) (hR _ _ _ _ _ rfl (Blk.setRow_ R6.out _) Tryd.underlying58 rfl sizeAns) rfl ?_
 exact⟨rfl,D6.out.row (by have:=HGD.out;omega) (by have:=HGD.out;omega) _,below_setRow B6.out (by omega) _⟩
theorem deskDo_open_twice (gK gM n:Nat) (D:DataW Unit) (q:Cq) (w:World) (hD:Dd w gK gM n D) (hv: -9223372036854775808<=q.v/\q.v<=9223372036854775807)
 (g:Nat) (hhas:Maps.has D (keyL q.v)=true) (hat:D.atKey (keyL q.v) .nil= .lit (.int .i64 (g:Nat))) (hk:q.k=1) (hgd:gK<w.heap.size/\gM<w.heap.size) (h0:dkOp D q.v true≠0):
 Calls Tryd.prog 18 #[.pointer (some ⟨gK,0,none⟩),.agg #[.int .i64 q.k,.int .i64 q.v,.bool q.r,.slice q.A q.n q.c,.slice q.A2 q.n2 q.c2]] w (fun x w'=>x= .returned (.agg (ansC (dkOp D q.v true) q.v none 0 0 none 0 0))/\Dd w' gK gM n D/\Below w.heap.size w w'):=by
 have HGD:=hid hgd
 have hR:=results_any1 (fn:=Tryd.f18) (p:=4) (ty:=58) rfl
 have S0:=hid (Di.start w q hD)
 obtain⟨V0,hV0⟩: ∃V0,V0=(((w.alloc (.cells #[.int .i64 q.k,.int .i64 q.v,.bool q.r,.slice q.A q.n q.c,.slice q.A2 q.n2 q.c2] 56)).alloc (.cells #[.int .i64 0,.int .i64 0,.slice none 0 0,.slice none 0 0] 58)).alloc (.cells #[.int .i64 0,.int .i64 q.v,.slice none 0 0,.slice none 0 0] 58)):=⟨_,rfl⟩
 rw[<-hV0] at S0
 have HV0:=hV0.symm
 have hrun:=(S0.out.D.below ((Below.refl _ _).drew)).M.hit hv hhas hat
 have k1:=S0.out.c0
 have k2:=S0.out.c1
 have k3:V0.cell? ⟨gK,0,none⟩=some (.map (some gM)):=Blk.cell S0.out.D.K 0
 have KO:=hid (fun W (h:Dd W gK gM n D)=>deskOpen_no gK gM n D q.v true W h h0)
 clear hV0 hD h0
 generalize dkOp D q.v true=cd at*
 rw[hk] at HV0 k1|-
 have HVx:=hid HV0
 clear HV0
 go_enter Tryd.func18,Tryd.ntmps18
 go_upto_region 8 with fail
 rw[HVx.out]
 go_region
 have S1:=hid (S0.out.below ((Below.refl _ _).drew))
 obtain⟨V1,hV1⟩: ∃V1,V1=World.drew V0:=⟨_,rfl⟩
 rw[<-hV1] at S1|-
 clear k1 k2 k3 hrun hV1 S0
 have k1:=S1.out.c0
 have k2:=S1.out.c1
 rw[hk] at k1
 go_wp2_with fail
 with_reducible refine(KO.out V1 S1.out.D).mono ?_
 rintro x w2 ⟨rfl,rfl⟩
 have t0:=Blk.cell S1.out.T 0
 have f0:=Blk.frozen S1.out.T 0
 have T6:=hid (show Blk (V1.setCell ⟨w.heap.size+1+1,0,none⟩ (.int .i64 cd)) (w.heap.size+1+1) 58 (ansC cd q.v none 0 0 none 0 0) from Blk.set_ S1.out.T 0 (.int .i64 cd))
 have R6:=hid (Blk.far S1.out.R (p:=⟨w.heap.size+1+1,0,none⟩) (by show w.heap.size+1≠w.heap.size+1+1;omega) (.int .i64 cd))
 have D6:=hid (S1.out.D.far (b:=w.heap.size+1+1) (by have:=HGD.out;omega) (by have:=HGD.out;omega) [.int .i64 cd] 0)
 have D6:=hid (show Dd (V1.setCell ⟨w.heap.size+1+1,0,none⟩ (.int .i64 cd)) gK gM n D from D6.out)
 have B6:=hid (S1.out.bel.setCell (p:=⟨w.heap.size+1+1,0,none⟩) (by show w.heap.size<=w.heap.size+1+1;omega) (.int .i64 cd))
 obtain⟨V6,hV6⟩: ∃V6,V6=V1.setCell ⟨w.heap.size+1+1,0,none⟩ (.int .i64 cd):=⟨_,rfl⟩
 rw[<-hV6] at T6 R6 D6 B6
 have HV6:=hid hV6.symm
 clear hV6 k1 k2
 go_wp2_with (first
  |(rw[HV6.out];clear HV6 t0 f0)
  |(refine wpList_loadC rfl 58 (.tmp 5) rfl _ 58 _ _ rfl T6.out Tryd.underlying58 rfl sizeAns ?_)
  |(refine wpList_storeC rfl 58 (.tmp 4) (.tmp 51) rfl _ 58 _ (ansC cd q.v none 0 0 none 0 0) rfl rfl R6.out sizeAns rfl (one_ans _ _ _ _ _ _ _ _) ?_))
 refine bodyPost_ret (v:=_) (hR _ _ _ _ _ rfl (Blk.setRow_ R6.out _) Tryd.underlying58 rfl sizeAns) rfl ?_
 exact⟨rfl,D6.out.row (by have:=HGD.out;omega) (by have:=HGD.out;omega) _,below_setRow B6.out (by omega) _⟩
end Go.Proofs.YthoiikkjjaldnaaDoor
namespace Go.Proofs.YthoiikkjjaldnaaDoor
set_option linter.unusedVariables false
set_option linter.unusedSimpArgs false
set_option maxRecDepth 100000
open Go.RowKit Go.ChangeShapes Go.WideShapes
structure Ck where
 k:Int
 v:Int
 r:Bool
 A:Option Addr
 c:Nat
 xs:List Int
 A2:Option Addr
 c2:Nat
 zs:List Int
def Ck.cs (q:Ck):List Value:=[.int .i64 q.k,.int .i64 q.v,.bool q.r,.slice q.A q.xs.length q.c,.slice q.A2 q.zs.length q.c2]
structure CkAt (w:World) (B:Nat) (p:Addr) (q:Ck):Prop where
 b:p.block<B
 s: ∀j v,q.cs[j]?=some v->w.cell? (p.add j)=some v
 r:Rs w B q.A q.xs
 r2:Rb w B q.A2 q.zs
 k: -9223372036854775808<=q.k/\q.k<=9223372036854775807
 v: -9223372036854775808<=q.v/\q.v<=9223372036854775807
 l:q.xs.length<=17592186044000
 l2:q.zs.length<=140737488351232
 z:Byts q.zs
def CT (w:World) (B:Nat) (A:Option Addr) (n:Nat):Prop:= ∀i,i<n->∃ad q,A=some ad/\CkAt w B (ad.add (i*5)) q
section
variable {w w':World} {B B' n:Nat} {A:Option Addr} {p:Addr} {q:Ck}
theorem CkAt.below (h:CkAt w B p q) (hb:Below B w w'):CkAt w' B p q:=⟨h.b,fun j v hv=>by rw[hb.cell (by rw[block_of_add];exact h.b)];exact h.s j v hv,h.r.below hb,h.r2.below hb,h.k,h.v,h.l,h.l2,h.z⟩
theorem CT.below (h:CT w B A n) (hb:Below B w w'):CT w' B A n:=fun i hi=>by
 obtain⟨ad,q,e,hq⟩:=h i hi
 exact⟨ad,q,e,hq.below hb⟩
end
theorem byts_has {zs:List Int} (h: ∀y∈zs,IntKind.u8.has y):Byts zs:=fun i=>by
 rw[List.getD_eq_getElem?_getD]
 cases e:zs[i]? with
 |none=>simp
 |some y=>
  have h1:=h y (List.mem_of_getElem? e)
  simp[IntKind.has,IntKind.min,IntKind.max,IntKind.signed,IntKind.bits] at h1
  simpa using h1
theorem weightsAll_mem {H:Type} {P:Program} {t:TypeId} {d:DataW H} {n:Nat} (h:n∈d.weights P t): ∀{ds:List (DataW H)},d∈ds->n∈DataW.weightsAll P t ds
 |[],hd=>by cases hd
 |x::r,hd=>by
  simp only[DataW.weightsAll,List.mem_append]
  rcases List.mem_cons.1 hd with rfl|hr
  ·exact .inl h
  ·exact .inr (weightsAll_mem h hr)
theorem cellsCk:Tryd.prog.cellsOf 56=5:=by kernel_rfl
theorem call_at {H:Type} {enc:TypeId×Value->H} {w:World} {fuel:Nat} {cs:List Value} {y:DataW H×List MemPlace} (h:DataW.trod enc Tryd.prog w 0 (fun _=>true) true fuel 56 cs=some y) (hl:cs.length=5)
 (hsz: ∀x∈y.1.weights Tryd.prog 56,x<=reachBytes):
 ∃q:Ck,cs=q.cs/\Rs w w.heap.size q.A q.xs/\Rb w w.heap.size q.A2 q.zs/\(-9223372036854775808<=q.k/\q.k<=9223372036854775807)/\(-9223372036854775808<=q.v/\q.v<=9223372036854775807)/\q.xs.length<=17592186044000/\q.zs.length<=140737488351232/\Byts q.zs:=by
 obtain⟨v0,v1,v2,v3,v4,rfl⟩:=list5 hl
 obtain⟨xs,n,_,hx,_,hlen,hg⟩:=DataW.trod_struct Tryd.underlying56 h
 match xs,hlen with
 |[y0,y1,y2,y3,y4],_=>
  subst hx
  have c1:Tryd.prog.cellsOf 3=1:=by kernel_rfl
  have c2:Tryd.prog.cellsOf 4=1:=by kernel_rfl
  have c3:Tryd.prog.cellsOf 36=1:=by kernel_rfl
  have c4:Tryd.prog.cellsOf 39=1:=by kernel_rfl
  have c5:Tryd.prog.cellsOf 5=1:=by kernel_rfl
  have b1:Tryd.prog.bytesOf 3=8:=by kernel_rfl
  have b2:Tryd.prog.bytesOf 5=1:=by kernel_rfl
  have g0:=hg 0 _ rfl
  have g1:=hg 1 _ rfl
  have g2:=hg 2 _ rfl
  have g3:=hg 3 _ rfl
  have g4:=hg 4 _ rfl
  try simp at g0
  try simp at g1
  try simp at g2
  try simp at g3
  try simp at g4
  rw[c1] at g0 g1
  rw[c2] at g2
  rw[c3] at g3
  rw[c4] at g4
  simp only[List.take_succ_cons,List.take_zero] at g0 g1 g2 g3 g4
  obtain⟨k,e0,_,w0⟩:=DataW.trod_int Tryd.underlying3 g0
  obtain⟨u,e1,_,w1⟩:=DataW.trod_int Tryd.underlying3 g1
  obtain⟨q,e2,_⟩:=DataW.trod_bool Tryd.underlying4 g2
  simp only[List.cons.injEq,and_true] at e0 e1 e2
  subst e0
  subst e1
  subst e2
  have hw: ∀(j:Nat) (t:TypeId) (dd:DataW H),([3,3,4,36,39]:List TypeId)[j]?=some t->([y0.1,y1.1,y2.1,y3.1,y4.1]:List (DataW H))[j]?=some dd->∀x∈dd.weights Tryd.prog t,x<=reachBytes:=fun j t dd h1 h2 x hx=>by
   refine hsz x ?_
   simp only[DataW.weights,Tryd.underlying56]
   exact DataW.weights_mem_each h1 h2 x hx
  obtain⟨A,m,c,s3⟩:=Go.Joins.slice_form Tryd.underlying36 g3
  obtain⟨A2,m2,c',s4⟩:=Go.Joins.slice_form Tryd.underlying39 g4
  simp only[List.cons.injEq,and_true] at s3 s4
  subst s3
  subst s4
  obtain⟨zs,hz,l1,l2,r1,k1⟩:=slice_reads Tryd.underlying36 Tryd.underlying3 c1 g3 (hw 3 _ _ rfl rfl)
  obtain⟨ws,hws,m1,m2',r2,k2⟩:=slice_reads Tryd.underlying39 Tryd.underlying5 c5 g4 (hw 4 _ _ rfl rfl)
  rw[b1] at l2
  rw[b2] at m2'
  subst hz
  subst hws
  exact⟨⟨k,u,q,A,c,zs,A2,c',ws⟩,rfl,r1,r2,range_i64 (has_wf' w0),range_i64 (has_wf' w1),by show zs.length<=_;omega,by show ws.length<=_;omega,byts_has k2⟩
theorem value_calls {H:Type} {enc:TypeId×Value->H} {w:World} {v:Value} {d:DataW H} {ps:List MemPlace}
 (h:DataW.Trod enc Tryd.prog w 0 (fun _=>true) true 52 v d ps) (hv: ∃A n c,v= .slice A n c) (hsz: ∀x∈d.weights Tryd.prog 52,x<=reachBytes):
 ∃A n c,v= .slice A n c/\n<=c/\c<=9223372036854775807/\CT w w.heap.size A n:=by
 obtain⟨A,n,c,rfl⟩:=hv
 obtain⟨fuel,hf⟩:=h
 have hf':DataW.trod enc Tryd.prog w 0 (fun _=>true) true fuel 52 [.slice A n c]=some (d,ps):=by simpa[Value.cells] using hf
 refine⟨A,n,c,rfl,?_⟩
 rcases DataW.trod_slice Tryd.underlying52 hf' with⟨h1,_⟩|⟨a,len,cap,elems,rest,m,_,h1,hd,hb,hlc,hcm,hel,hcell,_,_⟩
 ·simp only[List.cons.injEq,Value.slice.injEq,and_true] at h1
  obtain⟨rfl,rfl,rfl⟩:=h1
  exact⟨by omega,by omega,fun i hi=>absurd hi (by omega)⟩
 ·simp only[List.cons.injEq,Value.slice.injEq,and_true] at h1
  obtain⟨rfl,rfl,rfl⟩:=h1
  simp only[Prod.mk.injEq] at hd
  obtain⟨rfl,_⟩:=hd
  refine⟨hlc,by unfold maxLen at hcm;omega,fun i hi=>?_⟩
  have h2:=hcell i hi
  rw[cellsCk] at h2
  rw[List.getElem?_eq_getElem (by omega)] at h2
  obtain⟨cs,h3,h4⟩:=Option.bind_eq_some_iff.1 h2
  obtain⟨_,h5,h6⟩:=World.cells?_some h3
  have hwt: ∀x∈(elems[i]'(by omega)).1.weights Tryd.prog 56,x<=reachBytes:=fun x hx=>hsz x (by
   simp only[DataW.weights,Tryd.underlying52]
   exact List.mem_cons_of_mem _ (List.mem_append_left _ (weightsAll_mem hx (List.mem_map.2 ⟨_,List.getElem_mem _,rfl⟩))))
  obtain⟨q,rfl,r,r2,k,v,l,l2,z⟩:=call_at h4 h5 hwt
  have hbk:=World.cells?_block h3 (by omega)
  exact⟨a,q,rfl,hbk,fun j v hv=>by
   have hj:j<5:=by
    have:=(List.getElem?_eq_some_iff.1 hv).1
    exact this
   rw[h6 j hj,hv],r,r2,k,v,l,l2,z⟩
end Go.Proofs.YthoiikkjjaldnaaDoor
namespace Go.Proofs.YthoiikkjjaldnaaDoor
set_option linter.unusedVariables false
set_option linter.unusedSimpArgs false
set_option maxRecDepth 100000
open Go.RowKit
theorem wpList_cat' {ops:Array Oper} {rest:List Oper} {o:Oper} {a:Act} {w:World} {Q:Exit->Act->World->Prop} (hgd:o.guard=none) (s x:Operand)
 (ho:o.op= .call {callee:= .builtin .append,args:= #[s,x],argTypes:= #[36,36]})
 (base:Nat) (A:Option Addr) (c:Nat) (xs:List Int) (hs:a.eval s= .slice A xs.length c) (hown:Own w base A c xs)
 (B:Nat) (A2:Option Addr) (c2:Nat) (ys:List Int) (m:Nat) (hx:a.eval x= .slice A2 m c2) (hm:ys.length=m) (hr:Rs w B A2 ys) (hlen:xs.length+m<=17592186044416) (hbase:base<=w.heap.size)
 (h: ∀A' c' w',Own w' base A' c' (xs++ys)->w.grownBy w' (A.map (·.block))->wpList Tryd.prog ops Q rest (a.put o.dst (.slice A' (xs.length+m) c')) w'):wpList Tryd.prog ops Q (o::rest) a w:=by
 subst hm
 exact wpList_cat hgd s x ho base A c xs hs hown B A2 c2 ys hx hr hlen hbase (fun A' c' w' h1 h2 _=>h A' c' w' h1 h2)
theorem topcall_any (k v:Int) (r:Bool) (A A2:Option Addr) (n c n2 c2:Nat) (xs bs:List Int) (w:World) (hr:Rs w w.heap.size A xs) (hn:xs.length=n) (hb:Rb w w.heap.size A2 bs) (hn2:bs.length=n2) (h1:n<=17592186044416) (h2:n2<=140737488355328):
 Calls Tryd.prog 19 #[.agg #[.int .i64 k,.int .i64 v,.bool r,.slice A n c,.slice A2 n2 c2]] w (fun e w'=> ∃A3 c3 A4 c4,e= .returned (.agg #[.int .i64 k,.int .i64 v,.bool r,.slice A3 n c3,.slice A4 n2 c4])/\Own w' w.heap.size A3 c3 xs/\OwnB w' w.heap.size A4 c4 bs/\n2<=c4/\Below w.heap.size w w'):=by
 have hR:=results_any1 (fn:=Tryd.f19) (p:=2) (ty:=56) rfl
 have B0:=hid (((Below.refl w.heap.size w).alloc (Nat.le_refl _) (.cells #[.int .i64 k,.int .i64 v,.bool r,.slice A n c,.slice A2 n2 c2] 56)).alloc (by simp) (.cells #[.int .i64 0,.int .i64 0,.bool false,.slice none 0 0,.slice none 0 0] 56))
 have J0:=hid (Blk.alloc (Blk.new w 56 #[.int .i64 k,.int .i64 v,.bool r,.slice A n c,.slice A2 n2 c2]) (.cells #[.int .i64 0,.int .i64 0,.bool false,.slice none 0 0,.slice none 0 0] 56))
 have Z0:=Blk.new (w.alloc (.cells #[.int .i64 k,.int .i64 v,.bool r,.slice A n c,.slice A2 n2 c2] 56)) 56 #[.int .i64 0,.int .i64 0,.bool false,.slice none 0 0,.slice none 0 0]
 simp only[World.size_alloc] at Z0
 have Z0:=hid Z0
 rename_i Z0r
 clear Z0r
 have HN:=hid hn
 have HN2:=hid hn2
 have HB:=hid hb
 obtain⟨W,hW⟩: ∃W,W=(w.alloc (.cells #[.int .i64 k,.int .i64 v,.bool r,.slice A n c,.slice A2 n2 c2] 56)).alloc (.cells #[.int .i64 0,.int .i64 0,.bool false,.slice none 0 0,.slice none 0 0] 56):=⟨_,rfl⟩
 rw[<-hW] at B0 J0 Z0
 have R0:=hid ((hr.below B0.out).more B0.out.size)
 have HW:=hid hW
 clear hr hb hn hn2 hW
 have c3:=Blk.cell J0.out 3
 have f3:=Blk.frozen J0.out 3
 have LW:=hid (Blk.lt Z0.out)
 go_enter Tryd.func19,Tryd.ntmps19
 go_upto_region 1 with(first|rw[<-HW.out]|fail)
 first|rw[<-HW.out]|skip
 go_upto_region 2 with(first
  |(at_builtin;refine wpList_cat' rfl (.const (.slice none 0 0)) (.tmp 4) rfl W.heap.size none 0 [] rfl Own.nil W.heap.size A c xs n rfl HN.out R0.out (by simpa using h1) (Nat.le_refl _) ?_
    intro A3 d3 w1 hO hG
    simp only[List.nil_append,Nat.zero_add] at hO
    have hB:=(Below.refl W.heap.size W).grown hG (Nat.le_refl _) (by simp)
    have J1:=hid (Blk.below' J0.out hB)
    have Z1:=hid (Blk.below' Z0.out hB)
    have B1:=hid (B0.out.trans (hB.mono B0.out.size))
    have ON:=hid hO
    clear hO hB hG c3 f3
    have c3:=Blk.cell J1.out 3
    have f3:=Blk.frozen J1.out 3))
 have J2:=hid (show Blk (w1.setCell ⟨w.heap.size,3,none⟩ (.slice A3 n d3)) w.heap.size 56 #[.int .i64 k,.int .i64 v,.bool r,.slice A3 n d3,.slice A2 n2 c2] from Blk.set_ J1.out 3 _)
 have Z2:=hid (Blk.far Z1.out (p:=⟨w.heap.size,3,none⟩) (by show w.heap.size+1≠w.heap.size;omega) (.slice A3 n d3))
 have B2:=hid (B1.out.setCell (p:=⟨w.heap.size,3,none⟩) (Nat.le_refl _) (.slice A3 n d3))
 have O2:=hid (Own.setC ON.out (g:=w.heap.size) (by have:=LW.out;omega) 3 (.slice A3 n d3))
 obtain⟨w2,hw2⟩: ∃w2,w2=w1.setCell ⟨w.heap.size,3,none⟩ (.slice A3 n d3):=⟨_,rfl⟩
 rw[<-hw2] at J2 Z2 B2 O2
 have HW2:=hid hw2
 clear hw2 J1 Z1 B1
 have c4:=Blk.cell J2.out 4
 have s2:=B2.out.size
 clear c3 f3
 go_wp2_with (first
  |rw[<-HW2.out]
  |(at_builtin;refine wpList_catB rfl (.const (.slice none 0 0)) (.tmp 8) rfl w2.heap.size none 0 0 [] rfl rfl OwnB.nil w2.heap.size A2 c2 n2 bs rfl HN2.out ((HB.out.below B2.out).more s2) (by omega) (Nat.le_refl _) ?_
    intro A4 c4' w3 hO hG
    simp only[List.nil_append,Nat.zero_add] at hO
    have hL:=(Below.refl w2.heap.size w2).grown hG (Nat.le_refl _) (by simp)
    have J3:=hid (Blk.below' J2.out hL)
    have Z3:=hid (Blk.below' Z2.out hL)
    have B3:=hid (B2.out.trans (hL.mono s2))
    have O3:=hid (O2.out.below hL)
    have P3:=hid hO
    clear hO hG hL
    have e4:=Blk.cell J3.out 4
    have f4:=Blk.frozen J3.out 4
    have LT3:=hid (Blk.lt Z3.out)
    have S23:=hid (show w.heap.size<w2.heap.size by have:=Blk.lt Z2.out;omega)
    have J4:=hid (show Blk (w3.setCell ⟨w.heap.size,4,none⟩ (.slice A4 n2 c4')) w.heap.size 56 #[.int .i64 k,.int .i64 v,.bool r,.slice A3 n d3,.slice A4 n2 c4'] from Blk.set_ J3.out 4 _)
    have Z4:=hid (Blk.far Z3.out (p:=⟨w.heap.size,4,none⟩) (by show w.heap.size+1≠w.heap.size;omega) (.slice A4 n2 c4'))
    have B4:=hid (B3.out.setCell (p:=⟨w.heap.size,4,none⟩) (Nat.le_refl _) (.slice A4 n2 c4'))
    have O4:=hid (Own.setC O3.out (g:=w.heap.size) (by have:=LW.out;omega) 4 (.slice A4 n2 c4'))
    have P4:=hid (ownB_setC P3.out (g:=w.heap.size) S23.out 4 (.slice A4 n2 c4')))
  |(refine wpList_loadC rfl 56 (.tmp 1) rfl _ 56 _ _ rfl J4.out Tryd.underlying56 rfl sizeCall ?_)
  |(refine wpList_storeC rfl 56 (.tmp 2) (.tmp 11) rfl _ 56 _ #[.int .i64 k,.int .i64 v,.bool r,.slice A3 n d3,.slice A4 n2 c4'] rfl rfl Z4.out sizeCall rfl (one_call k v r A3 n d3 A4 n2 c4') ?_))
 have RF:=hid (Blk.setRow_ Z4.out #[.int .i64 k,.int .i64 v,.bool r,.slice A3 n d3,.slice A4 n2 c4'])
 have BF:=hid (below_setRow B4.out (g:=w.heap.size+1) (by omega) #[.int .i64 k,.int .i64 v,.bool r,.slice A3 n d3,.slice A4 n2 c4'])
 have OF:=hid ((Own.setRow O4.out (g:=w.heap.size+1) (by have:=LW.out;omega) #[.int .i64 k,.int .i64 v,.bool r,.slice A3 n d3,.slice A4 n2 c4']).more (base':=w.heap.size) (by have:=LW.out;omega))
 have PF:=hid ((ownB_setRow P4.out (g:=w.heap.size+1) (by have:=Blk.lt Z2.out;omega) #[.int .i64 k,.int .i64 v,.bool r,.slice A3 n d3,.slice A4 n2 c4']).more (base':=w.heap.size) (by have:=S23.out;omega))
 refine bodyPost_ret (v:=_) (hR _ _ _ _ _ rfl RF.out Tryd.underlying56 rfl sizeCall) rfl ?_
 have hc:=PF.out.cap.1
 rw[HN2.out] at hc
 exact⟨A3,d3,A4,c4',rfl,OF.out,PF.out,hc,BF.out⟩
end Go.Proofs.YthoiikkjjaldnaaDoor
