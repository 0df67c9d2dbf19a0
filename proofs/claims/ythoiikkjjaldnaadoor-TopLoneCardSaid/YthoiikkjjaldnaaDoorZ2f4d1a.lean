/- Texts that the law rests on, laid together: DkM, DkO, TopF. -/
import Derived.Test.YthoiikkjjaldnaaDoorZ85a238
import Derived.Test.YthoiikkjjaldnaaDoorZbfb2ae
import Derived.Maps.OwnSet
import Derived.Maps.OwnOps
import Derived.Maps.Views
import Derived.Test.YthoiikkjjaldnaaDoorZ9f8558
import Derived.Deep.RegionHeld3
import Derived.Carry
import Derived.Test.YthoiikkjjaldnaaDoorZd18350
import Derived.Test.YthoiikkjjaldnaaDoorZ6782c5
set_option maxHeartbeats 2000000
namespace Go.Proofs.YthoiikkjjaldnaaDoor
set_option linter.unusedVariables false
set_option linter.unusedSimpArgs false
set_option maxRecDepth 100000
open Go.RowKit
open Go.Maps (Keyed)
def ptrR:Value->Option (DataW Unit×List MemPlace)
 | .pointer (some a)=>if a.off=0/\a=⟨a.block,0,none⟩ then some (.lit (.int .i64 (a.block:Nat)),[]) else none
 | .pointer none=>some (.nil,[])
 |_=>none
theorem ptrR_mk (g:Nat):ptrR (.pointer (some ⟨g,0,none⟩))=some (.lit (.int .i64 (g:Nat)),[]):=by
 show(if(⟨g,0,none⟩:Addr).off=0/\(⟨g,0,none⟩:Addr)=⟨(⟨g,0,none⟩:Addr).block,0,none⟩ then _ else _)=_
 rw[if_pos ⟨rfl,rfl⟩]
theorem ptrR_inv {v:Value} {g:Nat} {ps:List MemPlace} (h:ptrR v=some (.lit (.int .i64 (g:Nat)),ps)):v= .pointer (some ⟨g,0,none⟩):=by
 unfold ptrR at h
 split at h
 ·next a=>
  split at h
  ·next h1=>
   simp only[Option.some.injEq,Prod.mk.injEq,DataW.lit.injEq,Lit.int.injEq,true_and] at h
   have h2:a.block=g:=by exact_mod_cast h.1
   rw[h1.2,h2]
  ·cases h
 ·cases h
 ·cases h
theorem ptrR_nil {v:Value} {ps:List MemPlace} (h:ptrR v=some (.nil,ps)):v= .pointer none:=by
 unfold ptrR at h
 split at h
 ·split at h
  ·cases h
  ·cases h
 ·rfl
 ·cases h
def keyL (v:Int):Lit:= .int .i64 v
theorem intKey:Keyed Tryd.prog 3:=Go.Maps.int_keyed Tryd.underlying3
theorem key_of {v:Int} (h: -9223372036854775808<=v/\v<=9223372036854775807):keyOf Tryd.prog 3 (.int .i64 v)=some (keyL v):=by
 have hw:(Lit.int .i64 v).wf=true:=by simp[Lit.wf,IntKind.has,IntKind.min,IntKind.max,IntKind.signed,IntKind.bits];omega
 simp[keyOf,mapKey,Tryd.underlying3,hw,keyL]
def MpAt (W:World) (b n:Nat) (D:DataW Unit):Prop:=W.ownsMap Tryd.prog 3 ptrR b n D
theorem zeroPtr: ∀w,(zeroValue 100).run Tryd.prog w= .ok (.pointer none) w:=fun _=>by kernel_rfl
section
variable {W W':World} {b n:Nat} {D:DataW Unit}
theorem MpAt.below (h:MpAt W b n D) (hb:Below W.heap.size W W'):MpAt W' b n D:=
 World.ownsMap.kept (row:=none) h ⟨hb.os,hb.tape,hb.output,hb.size,fun k hk _=>hb.block k hk⟩ (by simp)
theorem MpAt.far (h:MpAt W b n D) {g:Nat} (hg:b≠g): ∀(vs:List Value) (o:Nat),MpAt (W.setCells g o vs) b n D:=by
 intro vs
 induction vs generalizing W with
 |nil=>exact fun _=>h
 |cons v vs ih=>exact fun o=>ih (World.ownsMap.setCell (a:=⟨g,o,none⟩) h hg v) (o+1)
theorem MpAt.hit (h:MpAt W b n D) {v:Int} {g:Nat} (hv: -9223372036854775808<=v/\v<=9223372036854775807) (h1:Maps.has D (keyL v)=true) (h2:D.atKey (keyL v) .nil= .lit (.int .i64 (g:Nat))):
 (Instr.lookup 97 (.map (some b)) (.int .i64 v) true).run Tryd.prog W= .ok (.tuple #[.pointer (some ⟨g,0,none⟩),.bool true]) W:=by
 obtain⟨x,ps,hrun,hx⟩:=World.ownsMap.look_ok h intKey Tryd.underlying97 (zeroPtr W) (zd:= .nil) (zp:=[]) rfl (key_of hv)
 rw[h2] at hx
 rw[hrun,h1,ptrR_inv hx]
theorem MpAt.miss (h:MpAt W b n D) {v:Int} (hv: -9223372036854775808<=v/\v<=9223372036854775807) (h1:Maps.has D (keyL v)=false):
 (Instr.lookup 97 (.map (some b)) (.int .i64 v) true).run Tryd.prog W= .ok (.tuple #[.pointer none,.bool false]) W:=by
 obtain⟨x,ps,hrun,hx⟩:=World.ownsMap.look_ok h intKey Tryd.underlying97 (zeroPtr W) (zd:= .nil) (zp:=[]) rfl (key_of hv)
 rw[Maps.atKey_of_not_has h1] at hx
 rw[hrun,h1,ptrR_nil hx]
theorem MpAt.size (h:MpAt W b n D) (ty:TypeId):(Builtin.len_ #[97] ty #[.map (some b)]).run Tryd.prog W= .ok (.int .i64 (Maps.size D)) W:=World.ownsMap.len h Tryd.underlying97 ty
theorem MpAt.put (h:MpAt W b n D) {v:Int} (hv: -9223372036854775808<=v/\v<=9223372036854775807) (hn:n<maxLen) (g:Nat):
 ∃w',(Instr.mapUpdate 97 (.map (some b)) (.int .i64 v) (.pointer (some ⟨g,0,none⟩))).run Tryd.prog W= .ok () w'/\MpAt w' b (n+1) (D.put (keyL v) (.lit (.int .i64 (g:Nat))))/\W.mapTurned w' b:=
 World.ownsMap.store h intKey Tryd.underlying97 hn (key_of hv) (ptrR_mk g)
theorem MpAt.del (h:MpAt W b n D) {v:Int} (hv: -9223372036854775808<=v/\v<=9223372036854775807) (ty:TypeId):
 ∃w',(Builtin.delete_ #[97,3] ty #[.map (some b),.int .i64 v]).run Tryd.prog W= .ok (.tuple #[]) w'/\MpAt w' b n (D.del (keyL v))/\W.mapTurned w' b:=
 World.ownsMap.drop h intKey Tryd.underlying97 (key_of hv) ty
end
end Go.Proofs.YthoiikkjjaldnaaDoor
namespace Go.Proofs.YthoiikkjjaldnaaDoor
set_option linter.unusedVariables false
set_option linter.unusedSimpArgs false
set_option maxRecDepth 100000
open Go.RowKit
def LB (w:World) (g:Nat) (e:En) (m:Mm):Prop:=Blk w g 104 (e.cs++m.cs).toArray
section
variable {w:World} {g:Nat} {e e':En} {m m':Mm}
theorem LB.E (h:LB w g e m):w.rangeAt g 0 e.cs:=range_of h [] e.cs m.cs rfl rfl
theorem LB.M (h:LB w g e m) (k:e.ok):w.rangeAt g 226 m.cs:=range_of h e.cs m.cs [] (by simp) (e.len k)
theorem LB.there (h:LB w g e m) (k:e.ok) (k2:m.ok) (o n:Nat) (ho:o+n<=328):w.there g o n:=fun j hj=>by
 refine⟨?_,Blk.frozen h _⟩
 rw[Blk.cell h]
 have:o+j<(e.cs++m.cs).toArray.size:=by rw[List.size_toArray,List.length_append,e.len k,m.len k2];omega
 rw[Array.getElem?_eq_getElem this];rfl
theorem LB.setE (h:LB w g e m) (k:e.ok) (k':e'.ok):LB (w.setCells g 0 e'.cs) g e' m:=by
 have h0:Blk w g 104 ([]++(e.cs++m.cs)).toArray:=h
 exact blk_setCells e'.cs e.cs [] m.cs w h0 (by rw[e'.len k',e.len k])
theorem LB.setM (h:LB w g e m) (k:e.ok) (k2:m.ok) (k':m'.ok):LB (w.setCells g 226 m'.cs) g e m':=by
 have h0:Blk w g 104 (e.cs++(m.cs++[])).toArray:=by rw[List.append_nil];exact h
 have h1:=blk_setCells m'.cs m.cs e.cs [] w h0 (by rw[m'.len k',m.len k2])
 rw[List.append_nil,e.len k] at h1
 exact h1
end
structure Dd (W:World) (gK gM n:Nat) (D:DataW Unit):Prop where
 K:Blk W gK 99 #[.map (some gM)]
 M:MpAt W gM n D
section
variable {W W':World} {gK gM n:Nat} {D:DataW Unit}
theorem Dd.below (h:Dd W gK gM n D) (hb:Below W.heap.size W W'):Dd W' gK gM n D:=⟨Blk.below' h.K hb,h.M.below hb⟩
theorem Dd.ne (h:Dd W gK gM n D):gK≠gM:=fun e=>by
 subst e
 obtain⟨es,clock,hb,_⟩:=h.M
 have h1:=h.K
 unfold Blk at h1
 rw[hb] at h1
 cases h1
theorem Dd.lt (h:Dd W gK gM n D):gM<W.heap.size:=World.ownsMap.lt h.M
end
theorem deskNew_any (w:World):Calls Tryd.prog 17 #[] w (fun e w'=> ∃gK gM,e= .returned (.pointer (some ⟨gK,0,none⟩))/\w.heap.size<=gM/\gM<gK/\Dd w' gK gM 0 (.map [])/\Below w.heap.size w w'):=by
 have hmm:= @run_makeMap Tryd.prog
 have M0:=hid (show MpAt (w.alloc (.map #[] 0)) w.heap.size 0 (.map []) from World.ownsMap_made w Tryd.prog 3 ptrR)
 have B0:=hid ((Below.refl w.heap.size w).alloc (Nat.le_refl _) (.map #[] 0))
 go_enter Tryd.func17,Tryd.ntmps17
 go_wp2_with fail
 go_ret
 have h2:=Blk.new (w.alloc (.map #[] 0)) 99 #[.map (some w.heap.size)]
 simp only[World.size_alloc] at h2
 have BB:=(Below.refl (w.alloc (.map #[] 0)).heap.size (w.alloc (.map #[] 0))).alloc (Nat.le_refl _) (.cells #[.map (some w.heap.size)] 99)
 exact⟨w.heap.size+1,w.heap.size,rfl,Nat.le_refl _,Nat.lt_succ_self _,⟨h2,M0.out.below BB⟩,B0.out.alloc (by simp) _⟩
def dkOp (D:DataW Unit) (v:Int) (there:Bool):Int:=if v<0 then 2 else if there then 10 else if 32<=Maps.size D then 7 else 0
theorem deskOpen_no (gK gM n:Nat) (D:DataW Unit) (v:Int) (there:Bool) (w:World) (h:Dd w gK gM n D) (hb:dkOp D v there≠0):Calls Tryd.prog 40 #[.pointer (some ⟨gK,0,none⟩),.int .i64 v,.bool there] w (fun e w'=>e= .returned (.int .i64 (dkOp D v there))/\w=w'):=by
 have c0:w.cell? ⟨gK,0,none⟩=some (.map (some gM)):=Blk.cell h.K 0
 have hl:=fun ty=>h.M.size ty
 clear h
 unfold dkOp at*
 by_cases h1:v<0
 ·rw[if_pos h1]
  have b1:decide (v<0)=true:=by simpa using h1
  go_enter Tryd.func40,Tryd.ntmps40
  go_wp2_with fail
  go_ret
  exact⟨rfl,rfl⟩
 ·rw[if_neg h1] at hb|-
  have b1:decide (v<0)=false:=by simpa using h1
  cases there with
  |true=>
   go_enter Tryd.func40,Tryd.ntmps40
   go_wp2_with fail
   go_ret
   exact⟨rfl,rfl⟩
  |false=>
   rw[if_neg (by simp)] at hb|-
   by_cases h2:32<=Maps.size D
   ·rw[if_pos h2]
    have b2:decide ((32:Int)<=(Maps.size D:Nat))=true:=by simp;omega
    have b3:(32:Int)<=(Maps.size D:Nat):=by omega
    go_enter Tryd.func40,Tryd.ntmps40
    go_wp2_with fail
    go_ret
    exact⟨rfl,rfl⟩
   ·rw[if_neg h2] at hb
    exact absurd rfl hb
theorem deskOpen_yes (gK gM n:Nat) (D:DataW Unit) (v:Int) (there:Bool) (w:World) (h:Dd w gK gM n D) (hv: -9223372036854775808<=v/\v<=9223372036854775807) (hb:dkOp D v there=0) (hn:n<maxLen):
 Calls Tryd.prog 40 #[.pointer (some ⟨gK,0,none⟩),.int .i64 v,.bool there] w (fun e w'=> ∃g,e= .returned (.int .i64 0)/\w.heap.size<=g/\Dd w' gK gM (n+1) (D.put (keyL v) (.lit (.int .i64 (g:Nat))))/\LB w' g enB freshM/\w.grownBy w' (some gM)):=by
 have c0:w.cell? ⟨gK,0,none⟩=some (.map (some gM)):=Blk.cell h.K 0
 have hl:=fun ty=>h.M.size ty
 have HD:=hid h
 have HN:=hid hn
 have HV:=hid hv
 have KB:=hid (fun W=>begin_any W)
 have KF:=hid (fun W=>fresh_any W)
 clear h hn
 unfold dkOp at hb
 by_cases h1:v<0
 ·rw[if_pos h1] at hb;cases hb
 rw[if_neg h1] at hb
 cases there with
 |true=>rw[if_pos rfl] at hb;cases hb
 |false=>
  rw[if_neg (by simp)] at hb
  by_cases h2:32<=Maps.size D
  ·rw[if_pos h2] at hb;cases hb
  have b1:decide (v<0)=false:=by simpa using h1
  have b2:decide ((32:Int)<=(Maps.size D:Nat))=false:=by simp;omega
  have b3: ¬(32:Int)<=(Maps.size D:Nat):=by omega
  clear hb hv
  go_enter Tryd.func40,Tryd.ntmps40
  go_upto_region 7 with fail
  refine wp_region_held (S:=fun W=>Blk W gK 99 #[.map (some gM)]) (by kernel_rfl) ?_
  have S1:=hid (HD.out.below ((Below.refl _ _).drew))
  have B1:=hid ((Below.refl w.heap.size w).drew)
  change wpAnyH _ _ _ _ _ _ _ _ (World.drew _)
  obtain⟨W1,hW1⟩: ∃W1,W1=World.drew w:=⟨_,rfl⟩
  rw[<-hW1] at S1 B1|-
  clear hW1
  refine wpAnyH_take (i:=0) (v:= .pointer (some ⟨gK,0,none⟩)) rfl (by kernel_rfl) (by kernel_rfl) (by kernel_rfl) (fun _ _ _ h=>h) (.inl ⟨by rfl,fun W hW=>by(first|rfl|go_simp)⟩) S1.out.K ?_
  refine wpAnyH_take (i:=1) (v:= .pointer (some ⟨gK,0,none⟩)) rfl (by kernel_rfl) (by kernel_rfl) (by kernel_rfl) (fun _ _ _ h=>h) (.inl ⟨by rfl,fun W hW=>by(first|rfl|go_simp)⟩) S1.out.K ?_
  refine wpAnyH_take (i:=2) (v:= .pointer (some ⟨gK,0,none⟩)) rfl (by kernel_rfl) (by kernel_rfl) (by kernel_rfl) (fun _ _ _ h=>h) (.inl ⟨by rfl,fun W hW=>by(first|rfl|go_simp)⟩) S1.out.K ?_
  refine wpAnyH_take (i:=3) (v:= .map (some gM)) rfl (by kernel_rfl) (by kernel_rfl) (by kernel_rfl) (fun _ _ _ h=>h) (.inl ⟨by rfl,fun W hW=>by have h:=Blk.cell hW 0;go_simp⟩) S1.out.K ?_
  refine wpAnyH_take (i:=4) (v:= .int .i64 v) rfl (by kernel_rfl) (by kernel_rfl) (by kernel_rfl) (fun _ _ _ h=>h) (.inl ⟨by rfl,fun W hW=>by(first|rfl|go_simp)⟩) S1.out.K ?_
  refine wpAnyH_ready (rs:=[5]) (by kernel_rfl) (by simp) (AllReadyH.cons rfl (fun K hK=>?_) AllReadyH.nil)
  go_simp
  with_reducible refine(KB.out W1).mono ?_
  rintro e W2 ⟨rfl,hB⟩
  have S2:=hid (S1.out.below hB)
  have B2:=hid (B1.out.trans (hB.mono B1.out.size))
  clear hB
  go_simp
  refine hK.out _ _ S2.out.K (fun _=>?_)
  clear hK K
  refine wpAnyH_ready (rs:=[6]) (by kernel_rfl) (by simp) (AllReadyH.cons rfl (fun K hK=>?_) AllReadyH.nil)
  go_simp
  with_reducible refine(KF.out W2).mono ?_
  rintro e W3 ⟨rfl,hB⟩
  have S3:=hid (S2.out.below hB)
  have B3:=hid (B2.out.trans (hB.mono B2.out.size))
  clear hB
  go_simp
  refine hK.out _ _ S3.out.K (fun _=>?_)
  clear hK K
  refine wpAnyH_take (i:=7) (v:= .agg (enB.cs++freshM.cs).toArray) rfl (by kernel_rfl) (by kernel_rfl) (by kernel_rfl) (fun _ _ _ h=>h) (.inl ⟨by rfl,fun W hW=>by kernel_rfl⟩) S3.out.K ?_
  refine wpAnyH_ready (rs:=[8]) (by kernel_rfl) (by simp) (AllReadyH.cons rfl (fun K hK=>?_) AllReadyH.nil)
  go_simp
  have BA:=(Below.refl W3.heap.size W3).alloc (Nat.le_refl _) (.cells (enB.cs++freshM.cs).toArray 104)
  have S4:=hid (S3.out.below BA)
  have B4:=hid (B3.out.trans (BA.mono B3.out.size))
  have L4:=hid (show LB (W3.alloc (.cells (enB.cs++freshM.cs).toArray 104)) W3.heap.size enB freshM from Blk.new _ _ _)
  obtain⟨W4,hW4⟩: ∃W4,W4=W3.alloc (.cells (enB.cs++freshM.cs).toArray 104):=⟨_,rfl⟩
  rw[<-hW4] at S4 B4 L4|-
  obtain⟨g,hg⟩: ∃g,g=W3.heap.size:=⟨_,rfl⟩
  have GL:=hid (show w.heap.size<=g from by rw[hg];exact B3.out.size)
  have GM:=hid (show gM<g from by rw[hg];exact S3.out.lt)
  rw[<-hg] at L4|-
  clear hW4 BA hg
  refine hK.out _ _ S4.out.K (fun _=>?_)
  clear hK K
  refine wpAnyH_ready (rs:=[9]) (by kernel_rfl) (by simp) (AllReadyH.cons rfl (fun K hK=>?_) AllReadyH.nil)
  obtain⟨W5,hrun,hM,hT⟩:=S4.out.M.put HV.out HN.out g
  have M5:=hid hM
  have G5:=hid (World.mapTurned.grown hT)
  clear hM hT
  go_simp
  have K5:=hid (show Blk W5 gK 99 #[.map (some gM)] from(G5.out.block gK (Blk.lt S4.out.K) (fun e=>S4.out.ne (Option.some.inj e))).trans S4.out.K)
  have L5:=hid (show LB W5 g enB freshM from(G5.out.block g (Blk.lt L4.out) (fun e=>by have:=GM.out;have:=Option.some.inj e;omega)).trans L4.out)
  have G6:=hid (show w.grownBy W5 (some gM) from⟨G5.out.os.trans B4.out.os,G5.out.tape.trans B4.out.tape,G5.out.output.trans B4.out.output,Nat.le_trans B4.out.size G5.out.size,fun i hi hne=>(G5.out.block i (Nat.lt_of_lt_of_le hi B4.out.size) hne).trans (B4.out.block i hi)⟩)
  clear hrun
  refine hK.out _ _ K5.out (fun _=>?_)
  clear hK K
  refine wpAnyH_done (by kernel_rfl) ?_ _
  go_wp2_with fail
  go_ret
  exact⟨rfl,g,GL.out,⟨K5.out,M5.out⟩,L5.out,G6.out⟩
end Go.Proofs.YthoiikkjjaldnaaDoor
namespace Go.Proofs.YthoiikkjjaldnaaDoor
set_option linter.unusedVariables false
set_option linter.unusedSimpArgs false
set_option maxRecDepth 100000
open Go.RowKit
theorem eraA_good {m:Mm} (g:goodM m=true):goodA (eraA m):=by
 have h:=dirL_goodA (okK_steady (goodM_of g).1)
 have hl:=dirL_len m.r
 have hb:exB (dirL m.r) 32440=true:=by
  unfold exB
  rw[Bool.and_eq_true,List.all_eq_true]
  refine⟨by decide,fun x hx=>?_⟩
  obtain⟨i,hi,rfl⟩:=List.getElem_of_mem hx
  have h1:=okP_at h.1 i
  rw[List.getD_eq_getElem?_getD,List.getElem?_eq_getElem hi,Option.getD_some] at h1
  unfold okA
  simp
  omega
 have e:eraA m=(List.range 9).map (exE (dirL m.r) 32440):=by unfold eraA exL;rw[if_pos hb]
 rw[e]
 constructor
 ·unfold okP
  rw[List.all_eq_true]
  intro x hx
  obtain⟨i,_,rfl⟩:=List.mem_map.1 hx
  have h1:=okP_at h.1 i
  have h2:=exF_range (g:=32440) (by omega) (by omega) i
  unfold exE
  have h3:=mul_bound (x:=(dirL m.r).getD i 0) (X:=1048576) (y:=exF 32440 i) (Y:=32768) (by omega) (by omega) (by omega) (by omega)
  exact okP1_yes (by omega) (by omega)
 ·rw[map_range_get _ (by omega)]
  unfold exE
  rw[h.2]
  rfl
theorem eraX_in (m:Mm):all16 (eraX m)=true:=mxL_in _ _ _ _ _
theorem eraB_yes {m:Mm} (g:goodM m=true) {s:Int} (h0:0<=s) (h1:s<=1):eraB m s=true:=by
 unfold eraB
 rw[g]
 simp
 omega
theorem eraP_good {m:Mm} (g:goodM m=true) (s:Int):goodM (eraP m s)=true:=by
 obtain⟨h1,h2,h3,t1,t2,t3,t4,t5⟩:=goodM_of g
 refine goodM_yes h1 h2 h3 ⟨t1,t2,t3,t4,?_⟩
 show 0<=er1 m s/\er1 m s<=6
 unfold er1
 split<;>omega
theorem eraN_good {m:Mm} (g:goodM m=true):goodM (eraN m)=true:=by
 obtain⟨h1,h2,h3,t1,t2,t3,t4,t5⟩:=goodM_of g
 refine goodM_yes h1 h2 (keepL_in h3) ⟨t1,?_,t3,t4,t5⟩
 show 0<=nzE m.se 40/\nzE m.se 40<65536
 have:=nzS_range (nzE m.se 39)
 rw[show(40:Nat)=39+1 from rfl,nzE_succ]
 omega
theorem eraR_good {m:Mm} (g:goodM m=true) {s:Int} (h0:0<=s) (h1:s<=1):goodM (eraR m s)=true:=by
 unfold eraR
 rw[if_pos (eraB_yes g h0 h1)]
 exact eraN_good (eraP_good g s)
theorem eraY_yes {m:Mm} (g:goodM m=true) {s:Int} (h0:0<=s) (h1:s<=1):(eraY m s).length=40/\all16 (eraY m s)=true:=by
 unfold eraY
 rw[if_pos (eraB_yes g h0 h1)]
 exact⟨eraX_len (goodM_of (eraP_good g s)).2.2.2.1,eraX_in _⟩
theorem stM_good {a:List Int} {m:Mm} (g:goodM m=true) (ha:goodA a) {s:Int} (h0:0<=s) (h1:s<=1):goodM (stM a m s)=true/\(stY a m s).length=40:=by
 have g2:=eraR_good g h0 h1
 obtain⟨hl,hi⟩:=eraY_yes g h0 h1
 obtain⟨e1,e2⟩:=play_yes (p:=(eraR m s).p) ha (goodM_of g2).2.1 hi hl
 unfold stM stY
 rw[e1,e2]
 exact⟨goodM_play g2 _ _ _,makeN_len _ _ _ _⟩
theorem coM_good {m:Mm} (g:goodM m=true):goodM (coM m)=true/\(coY m).length=80:=by
 have ha:=eraA_good g
 obtain⟨g1,l1⟩:=stM_good (a:=eraA m) g ha (s:=0) (by omega) (by omega)
 obtain⟨g2,l2⟩:=stM_good (a:=eraA m) g1 ha (s:=1) (by omega) (by omega)
 unfold coM coY
 rw[if_pos g,if_pos g]
 exact⟨g2,by rw[List.length_append,l1,l2]⟩
end Go.Proofs.YthoiikkjjaldnaaDoor
