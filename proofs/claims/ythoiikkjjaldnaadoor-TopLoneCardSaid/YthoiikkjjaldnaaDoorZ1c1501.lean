/- Texts that the law rests on, laid together: GoodR, SilW. -/
import Derived.Test.YthoiikkjjaldnaaDoorZ532283
import Derived.Test.YthoiikkjjaldnaaDoorZdf659f
set_option maxHeartbeats 4000000
namespace Go.Proofs.YthoiikkjjaldnaaDoor
set_option linter.unusedVariables false
set_option linter.unusedSimpArgs false
set_option maxRecDepth 100000
open Go.RowKit
def freshM:Mm:=⟨List.replicate 8 0,List.replicate 8 0,List.replicate 80 0,0,0,20,0,21845,false⟩
theorem freshM_ok:freshM.ok:=⟨rfl,rfl,rfl⟩
theorem freshM_ag:(Tryd.zeroCells30.setIfInBounds 98 (.int .i64 20)).setIfInBounds 100 (.int .i64 21845)=freshM.ag:=by kernel_rfl
theorem fresh_any (w:World):Calls Tryd.prog 8 #[] w fun e w'=>e= .returned (.agg freshM.ag)/\Below w.heap.size w w':=by
 have hR:=results_mem1 (fn:=Tryd.f8) (p:=0) rfl
 have HZ:MB (w.alloc (.cells Tryd.zeroCells30 30)) w.heap.size zeroM:=by rw[zeroM_ag];exact MB.new w zeroM
 have HZ:=hid HZ
 go_enter Tryd.func8,Tryd.ntmps8
 go_wp2_with (refine wpList_storeM rfl (.tmp 0) (.tmp 1) rfl _ zeroM freshM rfl (congrArg Value.agg freshM_ag) HZ.out zeroM_ok freshM_ok ?_)
 refine bodyPost_ret (v:=_) (hR _ _ _ freshM rfl (MB.setRow HZ.out freshM) freshM_ok) rfl ?_
 exact⟨rfl,below_setRow ((Below.refl _ w).alloc (Nat.le_refl _) _) (Nat.le_refl _) _⟩
end Go.Proofs.YthoiikkjjaldnaaDoor
namespace Go.Proofs.YthoiikkjjaldnaaDoor
set_option linter.unusedVariables false
set_option linter.unusedSimpArgs false
set_option maxRecDepth 100000
open Go.RowKit
def silM (m:Mm):Mm:={m with se:=nzE m.se 40,e:=keepL m.e (nzL m.se 8 40)}
def silR (m:Mm):Mm:=if goodM m then silM m else zeroM
def silY (m:Mm):List Int:=if goodM m then nzL m.se 8 40 else[]
theorem silM_ok {m:Mm} (k:m.ok):(silM m).ok:=⟨k.r,k.p,keepL_len k.e (nzL_len _ _ _)⟩
def NewM (w:World) (mm:Mm) (ys:List Int) (er:Int) (e:Ending) (w':World):Prop:= ∃A c,e= .returned (.tuple #[.agg mm.ag,.slice A ys.length c,.int .i64 er])/\Own w' w.heap.size A c ys/\Below w.heap.size w w'
theorem Own.setCs {base g c:Nat} {A:Option Addr} {xs:List Int} (hg:g<base): ∀(vs:List Value) (o:Nat) (w:World),Own w base A c xs->Own (w.setCells g o vs) base A c xs
 |[],_,_,h=>h
 |v::vs,o,_,h=>Own.setCs hg vs (o+1) _ (Own.setC h hg o v)
structure Ms (w wr:World) (m:Mm):Prop where
 A:MB wr w.heap.size m
 R:MB wr (w.heap.size+1) zeroM
 bel:Below w.heap.size w wr
theorem Ms.start (w:World) (m:Mm):Ms w ((w.alloc (.cells m.ag 30)).alloc (.cells Tryd.zeroCells30 30)) m:=by
 have h1:=MB.new w m
 have h2:=MB.new (w.alloc (.cells m.ag 30)) zeroM
 simp only[World.size_alloc] at h2
 rw[zeroM_ag]
 exact⟨Blk.alloc h1 _,h2,((Below.refl _ _).alloc (Nat.le_refl _) _).alloc (by simp) _⟩
theorem Ms.below {w wr w':World} {m:Mm} (s:Ms w wr m) (hb:Below wr.heap.size wr w'):Ms w w' m:=
 ⟨Blk.below' s.A hb,Blk.below' s.R hb,s.bel.trans (hb.mono s.bel.size)⟩
theorem Ms.drew {w wr:World} {m:Mm} (s:Ms w wr m):Ms w wr.drew m:=⟨s.A,s.R,s.bel.drew⟩
theorem Ms.lt {w wr:World} {m:Mm} (s:Ms w wr m):w.heap.size+2<=wr.heap.size:=Blk.lt s.R
theorem Ms.se {w wr:World} {m:Mm} (s:Ms w wr m) (k:m.ok) (x:Int):Ms w (wr.setCell ⟨w.heap.size,100,none⟩ (.int .i64 x)) {m with se:=x}:=
 ⟨s.A.set_se k x,Blk.far s.R (by simp) _,s.bel.setCell (by simp) _⟩
theorem Ms.er {w wr:World} {m:Mm} (s:Ms w wr m) (k:m.ok) (x:Int):Ms w (wr.setCell ⟨w.heap.size,99,none⟩ (.int .i64 x)) {m with er:=x}:=
 ⟨s.A.set_er k x,Blk.far s.R (by simp) _,s.bel.setCell (by simp) _⟩
theorem Ms.ex {w wr:World} {m:Mm} (s:Ms w wr m) (k:m.ok) (e:List Int) (he:e.length=80):Ms w (wr.setCells w.heap.size 16 (ints e)) {m with e:=e}:=
 ⟨s.A.set_e k e he,blk_sc (by omega) _ _ _ s.R,below_sc (Nat.le_refl _) _ _ _ s.bel⟩
theorem silent_any (m:Mm) (k:m.ok) (w:World):Calls Tryd.prog 71 #[.agg m.ag] w (NewM w (silR m) (silY m) (errOf (goodM m))):=by
 have hR:=results_mem3 (fn:=Tryd.f71) (p:=2) (q:=3) (r:=4) rfl
 have S0:=hid (Ms.start w m)
 have K:=hid k
 have KG:=hid (fun W=>good_any m k W)
 have KN:=hid (fun W=>cnoise_any m.se 8 40 W (by omega))
 have NL:=hid (nzL_len m.se 8 40)
 have KL:=hid (keepL_len k.e (nzL_len m.se 8 40))
 have FR:=hid (show silR m=if goodM m then silM m else zeroM from rfl)
 have FY:=hid (show silY m=if goodM m then nzL m.se 8 40 else[] from rfl)
 have FM:=hid (show silM m={m with se:=nzE m.se 40,e:=keepL m.e (nzL m.se 8 40)} from rfl)
 have KK:=hid (fun W A c (h:Rs W W.heap.size A (nzL m.se 8 40))=>show Calls Tryd.prog 65 #[.agg (ints m.e).toArray,.slice A 40 c] W (Keeps W m.e (nzL m.se 8 40) 40) from keep_any m.e _ A c 40 W k.e h (nzL_len _ _ _) (by omega))
 have hi80:(Tryd.prog.info? 28).map (·.size)=some (ints m.e).length:=by rw[ints_len,k.e];exact size80k
 have HI80:=hid hi80
 clear k hi80
 go_enter Tryd.func71,Tryd.ntmps71
 go_wp2_with (refine wpList_loadM rfl (.tmp 1) rfl _ m rfl S0.out.A K.out ?_)
 refine(KG.out _).mono ?_
 rintro e w1 ⟨rfl,hB⟩
 have S1:=hid (S0.out.below hB)
 clear hB S0 KG
 cases hg:goodM m with
 |false=>
  have HG:=hid hg
  clear hg
  have hRow:=hid (MB.setRow S1.out.R zeroM)
  have FIN:=hid (below_setRow S1.out.bel (g:=w.heap.size+1) (by omega) zeroM.ag)
  go_wp2_with (refine wpList_storeM rfl (.tmp 2) (.tmp 9) rfl _ zeroM zeroM rfl (congrArg Value.agg zeroM_ag) S1.out.R zeroM_ok zeroM_ok ?_)
  refine bodyPost_ret (v:=_) (hR _ _ _ zeroM rfl hRow.out zeroM_ok) rfl ?_
  rw[FR.out,FY.out,HG.out]
  exact⟨none,0,rfl,Own.nil,FIN.out⟩
 |true=>
  have HG:=hid hg
  clear hg
  have cse:=S1.out.A.cse K.out
  go_wp2_with fail
  refine(KN.out _).mono ?_
  rintro e w2 ⟨A2,c2,rfl,hO,hB⟩
  have S2:=hid (S1.out.below hB)
  have LT:=hid S1.out.lt
  have O2:=hid hO
  clear hB hO
  have cse2:=S2.out.A.cse K.out
  have fse2:=MB.frozen S2.out.A 100
  have S3:=hid (S2.out.se K.out (nzE m.se 40))
  have O3:=hid (Own.setC (g:=w.heap.size) O2.out (by have:=LT.out;omega) 100 (.int .i64 (nzE m.se 40)))
  obtain⟨w3,hw3⟩: ∃w3,w3=w2.setCell ⟨w.heap.size,100,none⟩ (.int .i64 (nzE m.se 40)):=⟨_,rfl⟩
  rw[<-hw3] at S3 O3
  have HW3:=hid hw3
  clear hw3 LT
  have K3:=hid (K.out.se (nzE m.se 40))
  go_wp2_with (first
   |(rw[<-HW3.out])
   |(refine wpList_load_mid rfl 28 (.tmp 18) rfl _ _ rfl (ints m.e) _ (S3.out.A.E K3.out) Tryd.underlying28 rfl HI80.out ?_))
  refine(KK.out w3 A2 c2 O3.out.reads).mono ?_
  rintro e w4 ⟨rfl,hB⟩
  have S4:=hid (S3.out.below hB)
  have O4:=hid (O3.out.below hB)
  have LT:=hid S1.out.lt
  clear hB
  have hKE:=hid (show keepA m.e (nzL m.se 8 40) 40=keepL m.e (nzL m.se 8 40) from rfl)
  rw[hKE.out]
  have S5:=hid (S4.out.ex K3.out _ KL.out)
  have O5:=hid (Own.setCs (g:=w.heap.size) (by have:=LT.out;omega) (ints (keepL m.e (nzL m.se 8 40))) 16 _ O4.out)
  obtain⟨w5,hw5⟩: ∃w5,w5=w4.setCells w.heap.size 16 (ints (keepL m.e (nzL m.se 8 40))):=⟨_,rfl⟩
  rw[<-hw5] at S5 O5
  have HW5:=hid hw5
  clear hw5
  have OK5:=hid (show Mm.ok _ from(K3.out.ex KL.out))
  have T5:=hid (show Ms w w5 (silM m) from S5.out)
  have OKS:=hid (silM_ok K.out)
  have hRow:=hid (MB.setRow T5.out.R (silM m))
  have FIN:=hid (below_setRow T5.out.bel (g:=w.heap.size+1) (by omega) (silM m).ag)
  have OF:=hid ((O5.out.setRow (g:=w.heap.size+1) (by have:=LT.out;omega) (silM m).ag).more (base':=w.heap.size) (by have:=LT.out;omega))
  have SZ:=hid (show(Tryd.prog.info? 28).map (·.size)=some (agi (keepL m.e (nzL m.se 8 40))).size from by rw[agi_size,KL.out];exact size80k)
  have TH:=hid (show w4.there w.heap.size 16 (agi (keepL m.e (nzL m.se 8 40))).size from by rw[agi_size,KL.out];exact S4.out.A.thereE K3.out)
  go_wp2_with (first
   |(refine wpList_store_mid rfl 28 (.tmp 24) (.tmp 22) rfl w.heap.size 16 (agi (keepL m.e (nzL m.se 8 40))) rfl rfl TH.out SZ.out (agi_one _) ?_;rw[show(agi (keepL m.e (nzL m.se 8 40))).toList=ints (keepL m.e (nzL m.se 8 40)) from rfl,<-HW5.out])
   |(refine wpList_loadM rfl (.tmp 1) rfl _ (silM m) rfl T5.out.A OKS.out ?_)
   |(refine wpList_storeM rfl (.tmp 2) (.tmp 25) rfl _ zeroM (silM m) rfl rfl T5.out.R zeroM_ok OKS.out ?_))
  refine bodyPost_ret (v:=_) (hR _ _ _ (silM m) rfl hRow.out OKS.out) rfl ?_
  rw[FR.out,FY.out,HG.out]
  exact⟨A2,c2,by rw[if_pos rfl,if_pos rfl,NL.out];rfl,by rw[if_pos rfl];exact OF.out,FIN.out⟩
end Go.Proofs.YthoiikkjjaldnaaDoor
