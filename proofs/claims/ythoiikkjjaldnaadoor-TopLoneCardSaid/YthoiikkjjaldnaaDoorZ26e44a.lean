/- Texts that the law rests on, laid together: ErW. -/
import Derived.Test.YthoiikkjjaldnaaDoorZ1c1501
import Derived.Test.YthoiikkjjaldnaaDoorZdf659f
import Derived.Test.YthoiikkjjaldnaaDoorZcd86f7
import Derived.Deep.RegionHeld3
set_option maxHeartbeats 8000000
namespace Go.Proofs.YthoiikkjjaldnaaDoor
set_option linter.unusedVariables false
set_option linter.unusedSimpArgs false
set_option maxRecDepth 100000
open Go.RowKit
def eraZ (m:Mm):Int:=fade m.ga m.er/4
def eraX (m:Mm):List Int:=mxL m.e (nzL m.se (eraZ m) 40) m.la (fade m.pi m.er) 40
def eraN (m:Mm):Mm:={m with se:=nzE m.se 40,e:=keepL m.e (eraX m)}
def er1 (m:Mm) (half:Int):Int:=if half=0/\m.er<6 then m.er+1 else m.er
def eraP (m:Mm) (half:Int):Mm:={m with er:=er1 m half}
def eraB (m:Mm) (half:Int):Bool:=goodM m&&decide (0<=half/\half<=1)
def eraR (m:Mm) (half:Int):Mm:=if eraB m half then eraN (eraP m half) else zeroM
def eraY (m:Mm) (half:Int):List Int:=if eraB m half then eraX (eraP m half) else[]
theorem eraX_good {m:Mm} (h:20<=m.la/\m.la<=79):mxB m.la (fade m.pi m.er)=true:=by
 unfold mxB
 have:=fade_range m.pi m.er
 rw[pastB_yes h.1 h.2]
 simp[this.1,this.2]
theorem eraX_len {m:Mm} (h:20<=m.la/\m.la<=79):(eraX m).length=40:=by
 unfold eraX
 rw[(mx_good (eraX_good h)).1]
 simp
theorem eraN_ok {m:Mm} (k:m.ok) (h:20<=m.la/\m.la<=79):(eraN m).ok:=⟨k.r,k.p,keepL_len k.e (eraX_len h)⟩
theorem eraP_ok {m:Mm} (k:m.ok) (half:Int):(eraP m half).ok:=⟨k.r,k.p,k.e⟩
theorem eraB_good {m:Mm} {half:Int} (h:eraB m half=true):goodM m=true/\0<=half/\half<=1:=by
 unfold eraB at h
 simpa using h
theorem eraR_ok {m:Mm} (k:m.ok) (half:Int):(eraR m half).ok:=by
 unfold eraR
 split
 ·next h=>exact eraN_ok (eraP_ok k half) (goodM_of (eraB_good h).1).2.2.2.1
 ·exact zeroM_ok
theorem eraY_len (m:Mm) (half:Int):(eraY m half).length<=40:=by
 unfold eraY
 split
 ·next h=>exact Nat.le_of_eq (eraX_len (goodM_of (eraB_good h).1).2.2.2.1)
 ·simp
theorem erased_any (m:Mm) (k:m.ok) (half:Int) (w:World):Calls Tryd.prog 38 #[.agg m.ag,.int .i64 half] w (NewM w (eraR m half) (eraY m half) (errOf (eraB m half))):=by
 have hR:=results_mem3 (fn:=Tryd.f38) (p:=4) (q:=5) (r:=6) rfl
 have S0:=hid (Ms.start w m)
 have K:=hid k
 have KG:=hid (fun W=>good_any m k W)
 clear k
 go_enter Tryd.func38,Tryd.ntmps38
 go_wp2_with (refine wpList_loadM rfl (.tmp 2) rfl _ m rfl S0.out.A K.out ?_)
 refine(KG.out _).mono ?_
 rintro e w1 ⟨rfl,hB⟩
 have S1:=hid (S0.out.below hB)
 clear hB S0 KG
 cases hg:goodM m with
 |false=>
  have HE:=hid (show eraB m half=false by unfold eraB;rw[hg];rfl)
  clear hg
  have FR:=hid (show eraR m half=zeroM by unfold eraR;rw[HE.out];rfl)
  have FY:=hid (show eraY m half=[] by unfold eraY;rw[HE.out];rfl)
  have hRow:=hid (MB.setRow S1.out.R zeroM)
  have FIN:=hid (below_setRow S1.out.bel (g:=w.heap.size+1) (by omega) zeroM.ag)
  go_wp2_with (refine wpList_storeM rfl (.tmp 4) (.tmp 21) rfl _ zeroM zeroM rfl (congrArg Value.agg zeroM_ag) S1.out.R zeroM_ok zeroM_ok ?_)
  refine bodyPost_ret (v:=_) (hR _ _ _ zeroM rfl hRow.out zeroM_ok) rfl ?_
  rw[FR.out,FY.out,HE.out]
  exact⟨none,0,rfl,Own.nil,FIN.out⟩
 |true=>
 by_cases h1:half<0
 ·have HE:=hid (show eraB m half=false by unfold eraB;simp;omega)
  clear hg
  have FR:=hid (show eraR m half=zeroM by unfold eraR;rw[HE.out];rfl)
  have FY:=hid (show eraY m half=[] by unfold eraY;rw[HE.out];rfl)
  have hRow:=hid (MB.setRow S1.out.R zeroM)
  have FIN:=hid (below_setRow S1.out.bel (g:=w.heap.size+1) (by omega) zeroM.ag)
  go_wp2_with (refine wpList_storeM rfl (.tmp 4) (.tmp 21) rfl _ zeroM zeroM rfl (congrArg Value.agg zeroM_ag) S1.out.R zeroM_ok zeroM_ok ?_)
  refine bodyPost_ret (v:=_) (hR _ _ _ zeroM rfl hRow.out zeroM_ok) rfl ?_
  rw[FR.out,FY.out,HE.out]
  exact⟨none,0,rfl,Own.nil,FIN.out⟩
 by_cases h2:2<=half
 ·have HE:=hid (show eraB m half=false by unfold eraB;simp;omega)
  clear hg
  have FR:=hid (show eraR m half=zeroM by unfold eraR;rw[HE.out];rfl)
  have FY:=hid (show eraY m half=[] by unfold eraY;rw[HE.out];rfl)
  have hRow:=hid (MB.setRow S1.out.R zeroM)
  have FIN:=hid (below_setRow S1.out.bel (g:=w.heap.size+1) (by omega) zeroM.ag)
  go_wp2_with (refine wpList_storeM rfl (.tmp 4) (.tmp 21) rfl _ zeroM zeroM rfl (congrArg Value.agg zeroM_ag) S1.out.R zeroM_ok zeroM_ok ?_)
  refine bodyPost_ret (v:=_) (hR _ _ _ zeroM rfl hRow.out zeroM_ok) rfl ?_
  rw[FR.out,FY.out,HE.out]
  exact⟨none,0,rfl,Own.nil,FIN.out⟩
 have HE:=hid (show eraB m half=true by unfold eraB;rw[hg];simp;omega)
 have HT:=hid (goodM_of hg).2.2.2
 have FR:=hid (show eraR m half=eraN (eraP m half) by unfold eraR;rw[HE.out];rfl)
 have FY:=hid (show eraY m half=eraX (eraP m half) by unfold eraY;rw[HE.out];rfl)
 clear hg
 have key:(half=0/\m.er<6)\/(half=0/\m.er=6)\/half=1:=by
  have:=HT.out.2.2.2.2
  omega
 have a5:w1.cell? ⟨w.heap.size,99,none⟩=some (.int .i64 m.er):=S1.out.A.cer K.out
 have f5:w1.frozen? ⟨w.heap.size,99,none⟩=false:=MB.frozen S1.out.A 99
 have hM: ∃m2:Mm,m2=eraP m half:=⟨_,rfl⟩
 obtain⟨m2,hm2⟩:=hM
 rw[<-hm2] at FR FY
 have K2:=hid (show m2.ok by rw[hm2];exact eraP_ok K.out half)
 have HLA:=hid (show 20<=m2.la/\m2.la<=79 by rw[hm2];exact HT.out.1)
 rcases key with⟨rfl,h6⟩|⟨rfl,h6⟩|rfl
 ·have hw1:IntKind.i64.wrap (m.er+1)=m.er+1:=by have:=HT.out.2.2.2.2;rw[IntKind.wrap_i64];omega
  have h7:m.er+1<=6:=by omega
  have MM:=hid (show Ms w (w1.setCell ⟨w.heap.size,99,none⟩ (.int .i64 (m.er+1))) m2 by
   have:=S1.out.er K.out (m.er+1)
   rw[hm2]
   unfold eraP er1
   rw[if_pos ⟨rfl,h6⟩]
   exact this)
  clear hm2 h1 h2
  go_wp2_with fail
  obtain⟨W2,hW2⟩: ∃W2,W2=w1.setCell ⟨w.heap.size,99,none⟩ (.int .i64 (m.er+1)):=⟨_,rfl⟩
  rw[<-hW2] at MM|-
  clear hW2 a5 f5 hw1 h6 h7
  have c96:W2.cell? ⟨w.heap.size,96,none⟩=some (.int .i64 m2.ga):=MM.out.A.cga K2.out
  have c99:W2.cell? ⟨w.heap.size,99,none⟩=some (.int .i64 m2.er):=MM.out.A.cer K2.out
  have c100:W2.cell? ⟨w.heap.size,100,none⟩=some (.int .i64 m2.se):=MM.out.A.cse K2.out
  have KN:=hid (fun W=>show Calls Tryd.prog 73 #[.int .i64 m2.se,.int .i64 (eraZ m2),.int .i64 40] W (NzA W m2.se (eraZ m2) 40) from cnoise_any m2.se (eraZ m2) 40 W (by omega))
  have KM:=hid (fun W A c (hr:Rs W W.heap.size A (nzL m2.se (eraZ m2) 40))=>show Calls Tryd.prog 64 #[.agg (ints m2.e).toArray,.int .i64 m2.la,.int .i64 (fade m2.pi m2.er),.slice A 40 c] W (fun e w'=> ∃A c,e= .returned (.tuple #[.slice A 40 c,.int .i64 0])/\Own w' W.heap.size A c (eraX m2)/\Below W.heap.size W w') from by
   refine(mix_any m2.e _ m2.la (fade m2.pi m2.er) A c 40 W K2.out.e hr (nzL_len _ _ _) (by omega)).mono ?_
   rintro e w' ⟨A',c',h1,h2,h3⟩
   rw[(mx_good (h:=m2.e) (x:=nzL m2.se (eraZ m2) 40) (eraX_good HLA.out)).2] at h1
   have hl:=eraX_len HLA.out
   unfold eraX at hl
   rw[hl] at h1
   exact⟨A',c',h1,h2,h3⟩)
  have XL:=hid (eraX_len HLA.out)
  have EN:=hid (show eraN m2={m2 with se:=nzE m2.se 40,e:=keepL m2.e (eraX m2)} from rfl)
  have KF0:=fun W=>fade_any m2.ga m2.er W
  have KG0:=fun W=>fade_any m2.pi m2.er W
  have fb:=fade_range m2.ga m2.er
  have hwz:IntKind.i64.wrap (eraZ m2)=eraZ m2:=by unfold eraZ;rw[IntKind.wrap_i64];omega
  have hq:(fade m2.ga m2.er).tdiv 4=eraZ m2:=by unfold eraZ;exact Int.tdiv_eq_ediv_of_nonneg fb.1
  generalize eraX m2=x at*
  generalize eraZ m2=z at*
  generalize fade m2.ga m2.er=f at*
  generalize fade m2.pi m2.er=f2 at*
  have KF:=hid KF0
  have KG:=hid KG0
  clear KF0 KG0 fb
  refine wp_region_noPanic ?_
  refine wp_region_held_drew (S:=fun w'=>w'.cell? ⟨w.heap.size,96,none⟩=some (.int .i64 m2.ga)/\w'.cell? ⟨w.heap.size,99,none⟩=some (.int .i64 m2.er)) (by kernel_rfl) ⟨c96,c99⟩ (fun hHeld=>?_)
  refine wpAnyH_take (i:=0) (v:=?_) rfl (by kernel_rfl) (by kernel_rfl) (by kernel_rfl) (fun _ _ _ h=>h) (Or.inl ⟨by rfl,?_⟩) hHeld ?_
  rotate_left
  ·intro w hSw;obtain⟨hS1,hS2⟩:=hSw;go_simp
   try with_reducible rfl
  try simp only[List.getElem_toArray,List.getElem_cons_zero,List.getElem_cons_succ,Act.put,List.setIfInBounds_toArray,List.set_cons_zero,List.set_cons_succ]
  refine wpAnyH_take (i:=2) (v:=?_) rfl (by kernel_rfl) (by kernel_rfl) (by kernel_rfl) (fun _ _ _ h=>h) (Or.inl ⟨by rfl,?_⟩) hHeld ?_
  rotate_left
  ·intro w hSw;obtain⟨hS1,hS2⟩:=hSw;go_simp
   try with_reducible rfl
  try simp only[List.getElem_toArray,List.getElem_cons_zero,List.getElem_cons_succ,Act.put,List.setIfInBounds_toArray,List.set_cons_zero,List.set_cons_succ]
  refine wpAnyH_take (i:=3) (v:=?_) rfl (by kernel_rfl) (by kernel_rfl) (by kernel_rfl) (fun _ _ _ h=>h) (Or.inl ⟨by rfl,?_⟩) hHeld ?_
  rotate_left
  ·intro w hSw;obtain⟨hS1,hS2⟩:=hSw;go_simp
   try with_reducible rfl
  try simp only[List.getElem_toArray,List.getElem_cons_zero,List.getElem_cons_succ,Act.put,List.setIfInBounds_toArray,List.set_cons_zero,List.set_cons_succ]
  refine wpAnyH_take (i:=4) (v:=?_) rfl (by kernel_rfl) (by kernel_rfl) (by kernel_rfl) (fun _ _ _ h=>h) (Or.inl ⟨by rfl,?_⟩) hHeld ?_
  rotate_left
  ·intro w hSw;obtain⟨hS1,hS2⟩:=hSw;go_simp
   try with_reducible rfl
  try simp only[List.getElem_toArray,List.getElem_cons_zero,List.getElem_cons_succ,Act.put,List.setIfInBounds_toArray,List.set_cons_zero,List.set_cons_succ]
  refine wpAnyH_take (i:=5) (v:=?_) rfl (by kernel_rfl) (by kernel_rfl) (by kernel_rfl) (fun _ _ _ h=>h) (Or.inl ⟨by rfl,?_⟩) hHeld ?_
  rotate_left
  ·intro w hSw;obtain⟨hS1,hS2⟩:=hSw;go_simp
   try with_reducible rfl
  try simp only[List.getElem_toArray,List.getElem_cons_zero,List.getElem_cons_succ,Act.put,List.setIfInBounds_toArray,List.set_cons_zero,List.set_cons_succ]
  refine wpAnyH_ready (rs:=[1,6]) (by kernel_rfl) (by simp) ?_
  refine AllReadyH.cons rfl (fun K hK=>?_) (AllReadyH.cons rfl (fun K hK=>?_) AllReadyH.nil)
  ·clear hHeld
   go_simp
   refine hK.out _ _ ⟨c96,c99⟩ (fun hHeld=>?_)
   clear hK K
   try simp only[List.getElem_toArray,List.getElem_cons_zero,List.getElem_cons_succ,Act.put,List.setIfInBounds_toArray,List.set_cons_zero,List.set_cons_succ]
   refine wpAnyH_ready (rs:=[6]) (by kernel_rfl) (by simp) ?_
   refine AllReadyH.cons rfl (fun K hK=>?_) AllReadyH.nil
   clear hHeld
   go_simp
   go_at_call 74
   (with_reducible refine(KF.out _).mono ?_)
   rintro e' w' ⟨rfl,rfl⟩
   refine hK.out _ _ ⟨c96,c99⟩ (fun hHeld=>?_)
   clear hK K
   try simp only[List.getElem_toArray,List.getElem_cons_zero,List.getElem_cons_succ,Act.put,List.setIfInBounds_toArray,List.set_cons_zero,List.set_cons_succ]
   refine wpAnyH_take (i:=7) (v:=?_) rfl (by kernel_rfl) (by kernel_rfl) (by kernel_rfl) (fun _ _ _ h=>h) (Or.inl ⟨by rfl,?_⟩) hHeld ?_
   rotate_left
   ·intro w hSw;obtain⟨hS1,hS2⟩:=hSw;go_simp
    try with_reducible rfl
   try simp only[List.getElem_toArray,List.getElem_cons_zero,List.getElem_cons_succ,Act.put,List.setIfInBounds_toArray,List.set_cons_zero,List.set_cons_succ]
   refine wpAnyH_ready (rs:=[8]) (by kernel_rfl) (by simp) ?_
   refine AllReadyH.cons rfl (fun K hK=>?_) AllReadyH.nil
   clear hHeld
   go_simp
   go_at_call 73
   (with_reducible refine(KN.out W2.drew).mono ?_)
   rintro e' w3 ⟨A3,c3,rfl,hO,hB⟩;have M3:Ms w w3 m2:=MM.out.drew.below hB;have d96:w3.cell? ⟨w.heap.size,96,none⟩=some (.int .i64 m2.ga):=M3.A.cga K2.out;have d99:w3.cell? ⟨w.heap.size,99,none⟩=some (.int .i64 m2.er):=M3.A.cer K2.out;have d100:w3.cell? ⟨w.heap.size,100,none⟩=some (.int .i64 m2.se):=M3.A.cse K2.out;have g100:w3.frozen? ⟨w.heap.size,100,none⟩=false:=MB.frozen M3.A 100;have M4:Ms w (w3.setCell ⟨w.heap.size,100,none⟩ (.int .i64 (nzE m2.se 40))) {m2 with se:=nzE m2.se 40}:=M3.se K2.out (nzE m2.se 40);have h96:(w3.setCell ⟨w.heap.size,100,none⟩ (.int .i64 (nzE m2.se 40))).cell? ⟨w.heap.size,96,none⟩=some (.int .i64 m2.ga):=M4.A.cga (K2.out.se _);have h99:(w3.setCell ⟨w.heap.size,100,none⟩ (.int .i64 (nzE m2.se 40))).cell? ⟨w.heap.size,99,none⟩=some (.int .i64 m2.er):=M4.A.cer (K2.out.se _);have M4:=hid M4;have LT3:=hid M3.lt;have O3:=hid hO;clear hO hB
   refine hK.out _ _ ⟨d96,d99⟩ (fun hHeld=>?_)
   clear hK K
   try simp only[List.getElem_toArray,List.getElem_cons_zero,List.getElem_cons_succ,Act.put,List.setIfInBounds_toArray,List.set_cons_zero,List.set_cons_succ]
   refine wpAnyH_take (i:=9) (v:=?_) rfl (by kernel_rfl) (by kernel_rfl) (by kernel_rfl) (fun _ _ _ h=>h) (Or.inl ⟨by rfl,?_⟩) hHeld ?_
   rotate_left
   ·intro w hSw;obtain⟨hS1,hS2⟩:=hSw;go_simp
    try with_reducible rfl
   try simp only[List.getElem_toArray,List.getElem_cons_zero,List.getElem_cons_succ,Act.put,List.setIfInBounds_toArray,List.set_cons_zero,List.set_cons_succ]
   refine wpAnyH_take (i:=10) (v:=?_) rfl (by kernel_rfl) (by kernel_rfl) (by kernel_rfl) (fun _ _ _ h=>h) (Or.inl ⟨by rfl,?_⟩) hHeld ?_
   rotate_left
   ·intro w hSw;obtain⟨hS1,hS2⟩:=hSw;go_simp
    try with_reducible rfl
   try simp only[List.getElem_toArray,List.getElem_cons_zero,List.getElem_cons_succ,Act.put,List.setIfInBounds_toArray,List.set_cons_zero,List.set_cons_succ]
   refine wpAnyH_take (i:=11) (v:=?_) rfl (by kernel_rfl) (by kernel_rfl) (by kernel_rfl) (fun _ _ _ h=>h) (Or.inl ⟨by rfl,?_⟩) hHeld ?_
   rotate_left
   ·intro w hSw;obtain⟨hS1,hS2⟩:=hSw;go_simp
    try with_reducible rfl
   try simp only[List.getElem_toArray,List.getElem_cons_zero,List.getElem_cons_succ,Act.put,List.setIfInBounds_toArray,List.set_cons_zero,List.set_cons_succ]
   refine wpAnyH_take (i:=12) (v:=?_) rfl (by kernel_rfl) (by kernel_rfl) (by kernel_rfl) (fun _ _ _ h=>h) (Or.inl ⟨by rfl,?_⟩) hHeld ?_
   rotate_left
   ·intro w hSw;obtain⟨hS1,hS2⟩:=hSw;go_simp
    try with_reducible rfl
   try simp only[List.getElem_toArray,List.getElem_cons_zero,List.getElem_cons_succ,Act.put,List.setIfInBounds_toArray,List.set_cons_zero,List.set_cons_succ]
   refine wpAnyH_ready (rs:=[13]) (by kernel_rfl) (by simp) ?_
   refine AllReadyH.cons rfl (fun K hK=>?_) AllReadyH.nil
   clear hHeld
   go_simp
   refine hK.out _ _ ⟨h96,h99⟩ (fun hHeld=>?_)
   clear hK K
   try simp only[List.getElem_toArray,List.getElem_cons_zero,List.getElem_cons_succ,Act.put,List.setIfInBounds_toArray,List.set_cons_zero,List.set_cons_succ]
   refine wpAnyH_take (i:=14) (v:=?_) rfl (by kernel_rfl) (by kernel_rfl) (by kernel_rfl) (fun _ _ _ h=>h) (Or.inl ⟨by rfl,?_⟩) hHeld ?_
   rotate_left
   ·intro w hSw;obtain⟨hS1,hS2⟩:=hSw;go_simp
    try with_reducible rfl
   try simp only[List.getElem_toArray,List.getElem_cons_zero,List.getElem_cons_succ,Act.put,List.setIfInBounds_toArray,List.set_cons_zero,List.set_cons_succ]
   refine wpAnyH_done (by kernel_rfl) ?_ _
   clear hHeld
   refine NoPanic.normal ?_
   have O4:=hid (show Own (w3.setCell ⟨w.heap.size,100,none⟩ (.int .i64 (nzE m2.se 40))) (w.heap.size+2) A3 c3 (nzL m2.se z 40) from Own.setC (O3.out.more (base':=w.heap.size+2) (by have:=MM.out.lt;exact this)) (by omega) 100 _)
   obtain⟨W4,hW4⟩: ∃W4,W4=w3.setCell ⟨w.heap.size,100,none⟩ (.int .i64 (nzE m2.se 40)):=⟨_,rfl⟩
   clear c96 c99 c100 d96 d99 d100 h96 h99 g100 hq hwz MM KN KF
   rw[<-hW4] at M4 O4|-
   clear hW4 M3 O3
   have K3:=hid (K2.out.se (nzE m2.se 40))
   have rg4:W4.rangeAt w.heap.size 16 (ints m2.e):=M4.out.A.E K3.out
   have c98:W4.cell? ⟨w.heap.size,98,none⟩=some (.int .i64 m2.la):=M4.out.A.cla K3.out
   have c97:W4.cell? ⟨w.heap.size,97,none⟩=some (.int .i64 m2.pi):=M4.out.A.cpi K3.out
   have c99:W4.cell? ⟨w.heap.size,99,none⟩=some (.int .i64 m2.er):=M4.out.A.cer K3.out
   have hu80:=Tryd.underlying28
   have hi80:(Tryd.prog.info? 28).map (·.size)=some (ints m2.e).length:=by rw[ints_len,K2.out.e];exact size80k
   have R4:=hid (show Rs W4.drew W4.drew.heap.size A3 (nzL m2.se z 40) from O4.out.reads)
   simp only[Exit.then]
   go_wp2_with fail
   go_region_held3 (fun w'=>w'.rangeAt w.heap.size 16 (ints m2.e)/\w'.cell? ⟨w.heap.size,98,none⟩=some (.int .i64 m2.la)/\w'.cell? ⟨w.heap.size,97,none⟩=some (.int .i64 m2.pi)/\w'.cell? ⟨w.heap.size,99,none⟩=some (.int .i64 m2.er)) (first|exact⟨by assumption,by assumption,by assumption,by assumption⟩|go_keep) (first
    |(go_at_call 74;(with_reducible refine(KG.out _).mono ?_);rintro e' w' ⟨rfl,rfl⟩)
    |(go_at_call 64;(with_reducible refine(KM.out W4.drew A3 c3 R4.out).mono ?_);rintro e' w5 ⟨A5,c5,rfl,hO,hB⟩;have M5:Ms w w5 {m2 with se:=nzE m2.se 40}:=M4.out.drew.below hB;have rg5:w5.rangeAt w.heap.size 16 (ints m2.e):=M5.A.E K3.out;have d98:w5.cell? ⟨w.heap.size,98,none⟩=some (.int .i64 m2.la):=M5.A.cla K3.out;have d97:w5.cell? ⟨w.heap.size,97,none⟩=some (.int .i64 m2.pi):=M5.A.cpi K3.out;have d99:w5.cell? ⟨w.heap.size,99,none⟩=some (.int .i64 m2.er):=M5.A.cer K3.out;have M5:=hid M5;have O5:=hid (hO.more (base':=w.heap.size+2) (by have:=M4.out.lt;exact this));clear hO hB))
   rename_i hHeldZ
   clear hHeldZ
   clear rg4 c98 c97 c99 rg5 d98 d97 d99 hu80 M4 O4 R4 KM KG
   have KL:=hid (keepL_len K2.out.e XL.out)
   have KK:=hid (fun W A c (h:Rs W W.heap.size A x)=>show Calls Tryd.prog 65 #[.agg (ints m2.e).toArray,.slice A 40 c] W (Keeps W m2.e x 40) from keep_any m2.e _ A c 40 W K2.out.e h XL.out (by omega))
   have HI80:=hid hi80
   clear hi80
   simp only[Exit.then]
   go_wp2_with (refine wpList_load_mid rfl 28 (.tmp 61) rfl _ _ rfl (ints m2.e) _ (M5.out.A.E K3.out) Tryd.underlying28 rfl HI80.out ?_)
   refine(KK.out w5 A5 c5 O5.out.reads).mono ?_
   rintro e w6 ⟨rfl,hB⟩
   have M6:=hid (M5.out.below hB)
   have O6:=hid (O5.out.below hB)
   clear hB M5 O5 KK
   have hKE:=hid (show keepA m2.e x 40=keepL m2.e x from rfl)
   rw[hKE.out]
   have M7:=hid (M6.out.ex K3.out _ KL.out)
   have O7:=hid (Own.setCs (g:=w.heap.size) (by omega) (ints (keepL m2.e x)) 16 _ O6.out)
   have SZ:=hid (show(Tryd.prog.info? 28).map (·.size)=some (agi (keepL m2.e x)).size from by rw[agi_size,KL.out];exact size80k)
   have TH:=hid (show w6.there w.heap.size 16 (agi (keepL m2.e x)).size from by rw[agi_size,KL.out];exact M6.out.A.thereE K3.out)
   have OKS:=hid (show(eraN m2).ok by rw[EN.out];exact(K3.out.ex KL.out))
   obtain⟨w7,hw7⟩: ∃w7,w7=w6.setCells w.heap.size 16 (ints (keepL m2.e x)):=⟨_,rfl⟩
   rw[<-hw7] at M7 O7
   have HW7:=hid hw7
   have T7:=hid (show Ms w w7 (eraN m2) by rw[EN.out];exact M7.out)
   clear hw7 M7 EN
   have hRow:=hid (MB.setRow T7.out.R (eraN m2))
   have FIN:=hid (below_setRow T7.out.bel (g:=w.heap.size+1) (by omega) (eraN m2).ag)
   have OF:=hid ((O7.out.setRow (g:=w.heap.size+1) (by omega) (eraN m2).ag).more (base':=w.heap.size) (by omega))
   go_wp2_with (first
    |(refine wpList_store_mid rfl 28 (.tmp 67) (.tmp 65) rfl w.heap.size 16 (agi (keepL m2.e x)) rfl rfl TH.out SZ.out (agi_one _) ?_;rw[show(agi (keepL m2.e x)).toList=ints (keepL m2.e x) from rfl,<-HW7.out])
    |(refine wpList_loadM rfl (.tmp 2) rfl _ (eraN m2) rfl T7.out.A OKS.out ?_)
    |(refine wpList_storeM rfl (.tmp 4) (.tmp 68) rfl _ zeroM (eraN m2) rfl rfl T7.out.R zeroM_ok OKS.out ?_))
   refine bodyPost_ret (v:=_) (hR _ _ _ (eraN m2) rfl hRow.out OKS.out) rfl ?_
   rw[FR.out,FY.out,HE.out]
   exact⟨A5,c5,by rw[XL.out];rfl,OF.out,FIN.out⟩
  ·clear hHeld
   go_simp
   go_at_call 74
   (with_reducible refine(KF.out _).mono ?_)
   rintro e' w' ⟨rfl,rfl⟩
   refine hK.out _ _ ⟨c96,c99⟩ (fun hHeld=>?_)
   clear hK K
   try simp only[List.getElem_toArray,List.getElem_cons_zero,List.getElem_cons_succ,Act.put,List.setIfInBounds_toArray,List.set_cons_zero,List.set_cons_succ]
   refine wpAnyH_take (i:=7) (v:=?_) rfl (by kernel_rfl) (by kernel_rfl) (by kernel_rfl) (fun _ _ _ h=>h) (Or.inl ⟨by rfl,?_⟩) hHeld ?_
   rotate_left
   ·intro w hSw;obtain⟨hS1,hS2⟩:=hSw;go_simp
    try with_reducible rfl
   try simp only[List.getElem_toArray,List.getElem_cons_zero,List.getElem_cons_succ,Act.put,List.setIfInBounds_toArray,List.set_cons_zero,List.set_cons_succ]
   refine wpAnyH_ready (rs:=[1]) (by kernel_rfl) (by simp) ?_
   refine AllReadyH.cons rfl (fun K hK=>?_) AllReadyH.nil
   clear hHeld
   go_simp
   refine hK.out _ _ ⟨c96,c99⟩ (fun hHeld=>?_)
   clear hK K
   try simp only[List.getElem_toArray,List.getElem_cons_zero,List.getElem_cons_succ,Act.put,List.setIfInBounds_toArray,List.set_cons_zero,List.set_cons_succ]
   refine wpAnyH_ready (rs:=[8]) (by kernel_rfl) (by simp) ?_
   refine AllReadyH.cons rfl (fun K hK=>?_) AllReadyH.nil
   clear hHeld
   go_simp
   go_at_call 73
   (with_reducible refine(KN.out W2.drew).mono ?_)
   rintro e' w3 ⟨A3,c3,rfl,hO,hB⟩;have M3:Ms w w3 m2:=MM.out.drew.below hB;have d96:w3.cell? ⟨w.heap.size,96,none⟩=some (.int .i64 m2.ga):=M3.A.cga K2.out;have d99:w3.cell? ⟨w.heap.size,99,none⟩=some (.int .i64 m2.er):=M3.A.cer K2.out;have d100:w3.cell? ⟨w.heap.size,100,none⟩=some (.int .i64 m2.se):=M3.A.cse K2.out;have g100:w3.frozen? ⟨w.heap.size,100,none⟩=false:=MB.frozen M3.A 100;have M4:Ms w (w3.setCell ⟨w.heap.size,100,none⟩ (.int .i64 (nzE m2.se 40))) {m2 with se:=nzE m2.se 40}:=M3.se K2.out (nzE m2.se 40);have h96:(w3.setCell ⟨w.heap.size,100,none⟩ (.int .i64 (nzE m2.se 40))).cell? ⟨w.heap.size,96,none⟩=some (.int .i64 m2.ga):=M4.A.cga (K2.out.se _);have h99:(w3.setCell ⟨w.heap.size,100,none⟩ (.int .i64 (nzE m2.se 40))).cell? ⟨w.heap.size,99,none⟩=some (.int .i64 m2.er):=M4.A.cer (K2.out.se _);have M4:=hid M4;have LT3:=hid M3.lt;have O3:=hid hO;clear hO hB
   refine hK.out _ _ ⟨d96,d99⟩ (fun hHeld=>?_)
   clear hK K
   try simp only[List.getElem_toArray,List.getElem_cons_zero,List.getElem_cons_succ,Act.put,List.setIfInBounds_toArray,List.set_cons_zero,List.set_cons_succ]
   refine wpAnyH_take (i:=9) (v:=?_) rfl (by kernel_rfl) (by kernel_rfl) (by kernel_rfl) (fun _ _ _ h=>h) (Or.inl ⟨by rfl,?_⟩) hHeld ?_
   rotate_left
   ·intro w hSw;obtain⟨hS1,hS2⟩:=hSw;go_simp
    try with_reducible rfl
   try simp only[List.getElem_toArray,List.getElem_cons_zero,List.getElem_cons_succ,Act.put,List.setIfInBounds_toArray,List.set_cons_zero,List.set_cons_succ]
   refine wpAnyH_take (i:=10) (v:=?_) rfl (by kernel_rfl) (by kernel_rfl) (by kernel_rfl) (fun _ _ _ h=>h) (Or.inl ⟨by rfl,?_⟩) hHeld ?_
   rotate_left
   ·intro w hSw;obtain⟨hS1,hS2⟩:=hSw;go_simp
    try with_reducible rfl
   try simp only[List.getElem_toArray,List.getElem_cons_zero,List.getElem_cons_succ,Act.put,List.setIfInBounds_toArray,List.set_cons_zero,List.set_cons_succ]
   refine wpAnyH_take (i:=11) (v:=?_) rfl (by kernel_rfl) (by kernel_rfl) (by kernel_rfl) (fun _ _ _ h=>h) (Or.inl ⟨by rfl,?_⟩) hHeld ?_
   rotate_left
   ·intro w hSw;obtain⟨hS1,hS2⟩:=hSw;go_simp
    try with_reducible rfl
   try simp only[List.getElem_toArray,List.getElem_cons_zero,List.getElem_cons_succ,Act.put,List.setIfInBounds_toArray,List.set_cons_zero,List.set_cons_succ]
   refine wpAnyH_take (i:=12) (v:=?_) rfl (by kernel_rfl) (by kernel_rfl) (by kernel_rfl) (fun _ _ _ h=>h) (Or.inl ⟨by rfl,?_⟩) hHeld ?_
   rotate_left
   ·intro w hSw;obtain⟨hS1,hS2⟩:=hSw;go_simp
    try with_reducible rfl
   try simp only[List.getElem_toArray,List.getElem_cons_zero,List.getElem_cons_succ,Act.put,List.setIfInBounds_toArray,List.set_cons_zero,List.set_cons_succ]
   refine wpAnyH_ready (rs:=[13]) (by kernel_rfl) (by simp) ?_
   refine AllReadyH.cons rfl (fun K hK=>?_) AllReadyH.nil
   clear hHeld
   go_simp
   refine hK.out _ _ ⟨h96,h99⟩ (fun hHeld=>?_)
   clear hK K
   try simp only[List.getElem_toArray,List.getElem_cons_zero,List.getElem_cons_succ,Act.put,List.setIfInBounds_toArray,List.set_cons_zero,List.set_cons_succ]
   refine wpAnyH_take (i:=14) (v:=?_) rfl (by kernel_rfl) (by kernel_rfl) (by kernel_rfl) (fun _ _ _ h=>h) (Or.inl ⟨by rfl,?_⟩) hHeld ?_
   rotate_left
   ·intro w hSw;obtain⟨hS1,hS2⟩:=hSw;go_simp
    try with_reducible rfl
   try simp only[List.getElem_toArray,List.getElem_cons_zero,List.getElem_cons_succ,Act.put,List.setIfInBounds_toArray,List.set_cons_zero,List.set_cons_succ]
   refine wpAnyH_done (by kernel_rfl) ?_ _
   clear hHeld
   refine NoPanic.normal ?_
   have O4:=hid (show Own (w3.setCell ⟨w.heap.size,100,none⟩ (.int .i64 (nzE m2.se 40))) (w.heap.size+2) A3 c3 (nzL m2.se z 40) from Own.setC (O3.out.more (base':=w.heap.size+2) (by have:=MM.out.lt;exact this)) (by omega) 100 _)
   obtain⟨W4,hW4⟩: ∃W4,W4=w3.setCell ⟨w.heap.size,100,none⟩ (.int .i64 (nzE m2.se 40)):=⟨_,rfl⟩
   clear c96 c99 c100 d96 d99 d100 h96 h99 g100 hq hwz MM KN KF
   rw[<-hW4] at M4 O4|-
   clear hW4 M3 O3
   have K3:=hid (K2.out.se (nzE m2.se 40))
   have rg4:W4.rangeAt w.heap.size 16 (ints m2.e):=M4.out.A.E K3.out
   have c98:W4.cell? ⟨w.heap.size,98,none⟩=some (.int .i64 m2.la):=M4.out.A.cla K3.out
   have c97:W4.cell? ⟨w.heap.size,97,none⟩=some (.int .i64 m2.pi):=M4.out.A.cpi K3.out
   have c99:W4.cell? ⟨w.heap.size,99,none⟩=some (.int .i64 m2.er):=M4.out.A.cer K3.out
   have hu80:=Tryd.underlying28
   have hi80:(Tryd.prog.info? 28).map (·.size)=some (ints m2.e).length:=by rw[ints_len,K2.out.e];exact size80k
   have R4:=hid (show Rs W4.drew W4.drew.heap.size A3 (nzL m2.se z 40) from O4.out.reads)
   simp only[Exit.then]
   go_wp2_with fail
   go_region_held3 (fun w'=>w'.rangeAt w.heap.size 16 (ints m2.e)/\w'.cell? ⟨w.heap.size,98,none⟩=some (.int .i64 m2.la)/\w'.cell? ⟨w.heap.size,97,none⟩=some (.int .i64 m2.pi)/\w'.cell? ⟨w.heap.size,99,none⟩=some (.int .i64 m2.er)) (first|exact⟨by assumption,by assumption,by assumption,by assumption⟩|go_keep) (first
    |(go_at_call 74;(with_reducible refine(KG.out _).mono ?_);rintro e' w' ⟨rfl,rfl⟩)
    |(go_at_call 64;(with_reducible refine(KM.out W4.drew A3 c3 R4.out).mono ?_);rintro e' w5 ⟨A5,c5,rfl,hO,hB⟩;have M5:Ms w w5 {m2 with se:=nzE m2.se 40}:=M4.out.drew.below hB;have rg5:w5.rangeAt w.heap.size 16 (ints m2.e):=M5.A.E K3.out;have d98:w5.cell? ⟨w.heap.size,98,none⟩=some (.int .i64 m2.la):=M5.A.cla K3.out;have d97:w5.cell? ⟨w.heap.size,97,none⟩=some (.int .i64 m2.pi):=M5.A.cpi K3.out;have d99:w5.cell? ⟨w.heap.size,99,none⟩=some (.int .i64 m2.er):=M5.A.cer K3.out;have M5:=hid M5;have O5:=hid (hO.more (base':=w.heap.size+2) (by have:=M4.out.lt;exact this));clear hO hB))
   rename_i hHeldZ
   clear hHeldZ
   clear rg4 c98 c97 c99 rg5 d98 d97 d99 hu80 M4 O4 R4 KM KG
   have KL:=hid (keepL_len K2.out.e XL.out)
   have KK:=hid (fun W A c (h:Rs W W.heap.size A x)=>show Calls Tryd.prog 65 #[.agg (ints m2.e).toArray,.slice A 40 c] W (Keeps W m2.e x 40) from keep_any m2.e _ A c 40 W K2.out.e h XL.out (by omega))
   have HI80:=hid hi80
   clear hi80
   simp only[Exit.then]
   go_wp2_with (refine wpList_load_mid rfl 28 (.tmp 61) rfl _ _ rfl (ints m2.e) _ (M5.out.A.E K3.out) Tryd.underlying28 rfl HI80.out ?_)
   refine(KK.out w5 A5 c5 O5.out.reads).mono ?_
   rintro e w6 ⟨rfl,hB⟩
   have M6:=hid (M5.out.below hB)
   have O6:=hid (O5.out.below hB)
   clear hB M5 O5 KK
   have hKE:=hid (show keepA m2.e x 40=keepL m2.e x from rfl)
   rw[hKE.out]
   have M7:=hid (M6.out.ex K3.out _ KL.out)
   have O7:=hid (Own.setCs (g:=w.heap.size) (by omega) (ints (keepL m2.e x)) 16 _ O6.out)
   have SZ:=hid (show(Tryd.prog.info? 28).map (·.size)=some (agi (keepL m2.e x)).size from by rw[agi_size,KL.out];exact size80k)
   have TH:=hid (show w6.there w.heap.size 16 (agi (keepL m2.e x)).size from by rw[agi_size,KL.out];exact M6.out.A.thereE K3.out)
   have OKS:=hid (show(eraN m2).ok by rw[EN.out];exact(K3.out.ex KL.out))
   obtain⟨w7,hw7⟩: ∃w7,w7=w6.setCells w.heap.size 16 (ints (keepL m2.e x)):=⟨_,rfl⟩
   rw[<-hw7] at M7 O7
   have HW7:=hid hw7
   have T7:=hid (show Ms w w7 (eraN m2) by rw[EN.out];exact M7.out)
   clear hw7 M7 EN
   have hRow:=hid (MB.setRow T7.out.R (eraN m2))
   have FIN:=hid (below_setRow T7.out.bel (g:=w.heap.size+1) (by omega) (eraN m2).ag)
   have OF:=hid ((O7.out.setRow (g:=w.heap.size+1) (by omega) (eraN m2).ag).more (base':=w.heap.size) (by omega))
   go_wp2_with (first
    |(refine wpList_store_mid rfl 28 (.tmp 67) (.tmp 65) rfl w.heap.size 16 (agi (keepL m2.e x)) rfl rfl TH.out SZ.out (agi_one _) ?_;rw[show(agi (keepL m2.e x)).toList=ints (keepL m2.e x) from rfl,<-HW7.out])
    |(refine wpList_loadM rfl (.tmp 2) rfl _ (eraN m2) rfl T7.out.A OKS.out ?_)
    |(refine wpList_storeM rfl (.tmp 4) (.tmp 68) rfl _ zeroM (eraN m2) rfl rfl T7.out.R zeroM_ok OKS.out ?_))
   refine bodyPost_ret (v:=_) (hR _ _ _ (eraN m2) rfl hRow.out OKS.out) rfl ?_
   rw[FR.out,FY.out,HE.out]
   exact⟨A5,c5,by rw[XL.out];rfl,OF.out,FIN.out⟩
 ·have h6':=hid h6
  have a6:w1.cell? ⟨w.heap.size,99,none⟩=some (.int .i64 6):=by rw[a5,h6]
  have MM:=hid (show Ms w (w1.setCell ⟨w.heap.size,99,none⟩ (.int .i64 6)) m2 by
   have:=S1.out.er K.out 6
   rw[hm2]
   unfold eraP er1
   rw[if_neg (by omega),h6]
   exact this)
  clear hm2 h1 h2 h6 a5
  go_wp2_with fail
  obtain⟨W2,hW2⟩: ∃W2,W2=w1.setCell ⟨w.heap.size,99,none⟩ (.int .i64 6):=⟨_,rfl⟩
  rw[<-hW2] at MM|-
  clear hW2 a6 f5 h6'
  have c96:W2.cell? ⟨w.heap.size,96,none⟩=some (.int .i64 m2.ga):=MM.out.A.cga K2.out
  have c99:W2.cell? ⟨w.heap.size,99,none⟩=some (.int .i64 m2.er):=MM.out.A.cer K2.out
  have c100:W2.cell? ⟨w.heap.size,100,none⟩=some (.int .i64 m2.se):=MM.out.A.cse K2.out
  have KN:=hid (fun W=>show Calls Tryd.prog 73 #[.int .i64 m2.se,.int .i64 (eraZ m2),.int .i64 40] W (NzA W m2.se (eraZ m2) 40) from cnoise_any m2.se (eraZ m2) 40 W (by omega))
  have KM:=hid (fun W A c (hr:Rs W W.heap.size A (nzL m2.se (eraZ m2) 40))=>show Calls Tryd.prog 64 #[.agg (ints m2.e).toArray,.int .i64 m2.la,.int .i64 (fade m2.pi m2.er),.slice A 40 c] W (fun e w'=> ∃A c,e= .returned (.tuple #[.slice A 40 c,.int .i64 0])/\Own w' W.heap.size A c (eraX m2)/\Below W.heap.size W w') from by
   refine(mix_any m2.e _ m2.la (fade m2.pi m2.er) A c 40 W K2.out.e hr (nzL_len _ _ _) (by omega)).mono ?_
   rintro e w' ⟨A',c',h1,h2,h3⟩
   rw[(mx_good (h:=m2.e) (x:=nzL m2.se (eraZ m2) 40) (eraX_good HLA.out)).2] at h1
   have hl:=eraX_len HLA.out
   unfold eraX at hl
   rw[hl] at h1
   exact⟨A',c',h1,h2,h3⟩)
  have XL:=hid (eraX_len HLA.out)
  have EN:=hid (show eraN m2={m2 with se:=nzE m2.se 40,e:=keepL m2.e (eraX m2)} from rfl)
  have KF0:=fun W=>fade_any m2.ga m2.er W
  have KG0:=fun W=>fade_any m2.pi m2.er W
  have fb:=fade_range m2.ga m2.er
  have hwz:IntKind.i64.wrap (eraZ m2)=eraZ m2:=by unfold eraZ;rw[IntKind.wrap_i64];omega
  have hq:(fade m2.ga m2.er).tdiv 4=eraZ m2:=by unfold eraZ;exact Int.tdiv_eq_ediv_of_nonneg fb.1
  generalize eraX m2=x at*
  generalize eraZ m2=z at*
  generalize fade m2.ga m2.er=f at*
  generalize fade m2.pi m2.er=f2 at*
  have KF:=hid KF0
  have KG:=hid KG0
  clear KF0 KG0 fb
  refine wp_region_noPanic ?_
  refine wp_region_held_drew (S:=fun w'=>w'.cell? ⟨w.heap.size,96,none⟩=some (.int .i64 m2.ga)/\w'.cell? ⟨w.heap.size,99,none⟩=some (.int .i64 m2.er)) (by kernel_rfl) ⟨c96,c99⟩ (fun hHeld=>?_)
  refine wpAnyH_take (i:=0) (v:=?_) rfl (by kernel_rfl) (by kernel_rfl) (by kernel_rfl) (fun _ _ _ h=>h) (Or.inl ⟨by rfl,?_⟩) hHeld ?_
  rotate_left
  ·intro w hSw;obtain⟨hS1,hS2⟩:=hSw;go_simp
   try with_reducible rfl
  try simp only[List.getElem_toArray,List.getElem_cons_zero,List.getElem_cons_succ,Act.put,List.setIfInBounds_toArray,List.set_cons_zero,List.set_cons_succ]
  refine wpAnyH_take (i:=2) (v:=?_) rfl (by kernel_rfl) (by kernel_rfl) (by kernel_rfl) (fun _ _ _ h=>h) (Or.inl ⟨by rfl,?_⟩) hHeld ?_
  rotate_left
  ·intro w hSw;obtain⟨hS1,hS2⟩:=hSw;go_simp
   try with_reducible rfl
  try simp only[List.getElem_toArray,List.getElem_cons_zero,List.getElem_cons_succ,Act.put,List.setIfInBounds_toArray,List.set_cons_zero,List.set_cons_succ]
  refine wpAnyH_take (i:=3) (v:=?_) rfl (by kernel_rfl) (by kernel_rfl) (by kernel_rfl) (fun _ _ _ h=>h) (Or.inl ⟨by rfl,?_⟩) hHeld ?_
  rotate_left
  ·intro w hSw;obtain⟨hS1,hS2⟩:=hSw;go_simp
   try with_reducible rfl
  try simp only[List.getElem_toArray,List.getElem_cons_zero,List.getElem_cons_succ,Act.put,List.setIfInBounds_toArray,List.set_cons_zero,List.set_cons_succ]
  refine wpAnyH_take (i:=4) (v:=?_) rfl (by kernel_rfl) (by kernel_rfl) (by kernel_rfl) (fun _ _ _ h=>h) (Or.inl ⟨by rfl,?_⟩) hHeld ?_
  rotate_left
  ·intro w hSw;obtain⟨hS1,hS2⟩:=hSw;go_simp
   try with_reducible rfl
  try simp only[List.getElem_toArray,List.getElem_cons_zero,List.getElem_cons_succ,Act.put,List.setIfInBounds_toArray,List.set_cons_zero,List.set_cons_succ]
  refine wpAnyH_take (i:=5) (v:=?_) rfl (by kernel_rfl) (by kernel_rfl) (by kernel_rfl) (fun _ _ _ h=>h) (Or.inl ⟨by rfl,?_⟩) hHeld ?_
  rotate_left
  ·intro w hSw;obtain⟨hS1,hS2⟩:=hSw;go_simp
   try with_reducible rfl
  try simp only[List.getElem_toArray,List.getElem_cons_zero,List.getElem_cons_succ,Act.put,List.setIfInBounds_toArray,List.set_cons_zero,List.set_cons_succ]
  refine wpAnyH_ready (rs:=[1,6]) (by kernel_rfl) (by simp) ?_
  refine AllReadyH.cons rfl (fun K hK=>?_) (AllReadyH.cons rfl (fun K hK=>?_) AllReadyH.nil)
  ·clear hHeld
   go_simp
   refine hK.out _ _ ⟨c96,c99⟩ (fun hHeld=>?_)
   clear hK K
   try simp only[List.getElem_toArray,List.getElem_cons_zero,List.getElem_cons_succ,Act.put,List.setIfInBounds_toArray,List.set_cons_zero,List.set_cons_succ]
   refine wpAnyH_ready (rs:=[6]) (by kernel_rfl) (by simp) ?_
   refine AllReadyH.cons rfl (fun K hK=>?_) AllReadyH.nil
   clear hHeld
   go_simp
   go_at_call 74
   (with_reducible refine(KF.out _).mono ?_)
   rintro e' w' ⟨rfl,rfl⟩
   refine hK.out _ _ ⟨c96,c99⟩ (fun hHeld=>?_)
   clear hK K
   try simp only[List.getElem_toArray,List.getElem_cons_zero,List.getElem_cons_succ,Act.put,List.setIfInBounds_toArray,List.set_cons_zero,List.set_cons_succ]
   refine wpAnyH_take (i:=7) (v:=?_) rfl (by kernel_rfl) (by kernel_rfl) (by kernel_rfl) (fun _ _ _ h=>h) (Or.inl ⟨by rfl,?_⟩) hHeld ?_
   rotate_left
   ·intro w hSw;obtain⟨hS1,hS2⟩:=hSw;go_simp
    try with_reducible rfl
   try simp only[List.getElem_toArray,List.getElem_cons_zero,List.getElem_cons_succ,Act.put,List.setIfInBounds_toArray,List.set_cons_zero,List.set_cons_succ]
   refine wpAnyH_ready (rs:=[8]) (by kernel_rfl) (by simp) ?_
   refine AllReadyH.cons rfl (fun K hK=>?_) AllReadyH.nil
   clear hHeld
   go_simp
   go_at_call 73
   (with_reducible refine(KN.out W2.drew).mono ?_)
   rintro e' w3 ⟨A3,c3,rfl,hO,hB⟩;have M3:Ms w w3 m2:=MM.out.drew.below hB;have d96:w3.cell? ⟨w.heap.size,96,none⟩=some (.int .i64 m2.ga):=M3.A.cga K2.out;have d99:w3.cell? ⟨w.heap.size,99,none⟩=some (.int .i64 m2.er):=M3.A.cer K2.out;have d100:w3.cell? ⟨w.heap.size,100,none⟩=some (.int .i64 m2.se):=M3.A.cse K2.out;have g100:w3.frozen? ⟨w.heap.size,100,none⟩=false:=MB.frozen M3.A 100;have M4:Ms w (w3.setCell ⟨w.heap.size,100,none⟩ (.int .i64 (nzE m2.se 40))) {m2 with se:=nzE m2.se 40}:=M3.se K2.out (nzE m2.se 40);have h96:(w3.setCell ⟨w.heap.size,100,none⟩ (.int .i64 (nzE m2.se 40))).cell? ⟨w.heap.size,96,none⟩=some (.int .i64 m2.ga):=M4.A.cga (K2.out.se _);have h99:(w3.setCell ⟨w.heap.size,100,none⟩ (.int .i64 (nzE m2.se 40))).cell? ⟨w.heap.size,99,none⟩=some (.int .i64 m2.er):=M4.A.cer (K2.out.se _);have M4:=hid M4;have LT3:=hid M3.lt;have O3:=hid hO;clear hO hB
   refine hK.out _ _ ⟨d96,d99⟩ (fun hHeld=>?_)
   clear hK K
   try simp only[List.getElem_toArray,List.getElem_cons_zero,List.getElem_cons_succ,Act.put,List.setIfInBounds_toArray,List.set_cons_zero,List.set_cons_succ]
   refine wpAnyH_take (i:=9) (v:=?_) rfl (by kernel_rfl) (by kernel_rfl) (by kernel_rfl) (fun _ _ _ h=>h) (Or.inl ⟨by rfl,?_⟩) hHeld ?_
   rotate_left
   ·intro w hSw;obtain⟨hS1,hS2⟩:=hSw;go_simp
    try with_reducible rfl
   try simp only[List.getElem_toArray,List.getElem_cons_zero,List.getElem_cons_succ,Act.put,List.setIfInBounds_toArray,List.set_cons_zero,List.set_cons_succ]
   refine wpAnyH_take (i:=10) (v:=?_) rfl (by kernel_rfl) (by kernel_rfl) (by kernel_rfl) (fun _ _ _ h=>h) (Or.inl ⟨by rfl,?_⟩) hHeld ?_
   rotate_left
   ·intro w hSw;obtain⟨hS1,hS2⟩:=hSw;go_simp
    try with_reducible rfl
   try simp only[List.getElem_toArray,List.getElem_cons_zero,List.getElem_cons_succ,Act.put,List.setIfInBounds_toArray,List.set_cons_zero,List.set_cons_succ]
   refine wpAnyH_take (i:=11) (v:=?_) rfl (by kernel_rfl) (by kernel_rfl) (by kernel_rfl) (fun _ _ _ h=>h) (Or.inl ⟨by rfl,?_⟩) hHeld ?_
   rotate_left
   ·intro w hSw;obtain⟨hS1,hS2⟩:=hSw;go_simp
    try with_reducible rfl
   try simp only[List.getElem_toArray,List.getElem_cons_zero,List.getElem_cons_succ,Act.put,List.setIfInBounds_toArray,List.set_cons_zero,List.set_cons_succ]
   refine wpAnyH_take (i:=12) (v:=?_) rfl (by kernel_rfl) (by kernel_rfl) (by kernel_rfl) (fun _ _ _ h=>h) (Or.inl ⟨by rfl,?_⟩) hHeld ?_
   rotate_left
   ·intro w hSw;obtain⟨hS1,hS2⟩:=hSw;go_simp
    try with_reducible rfl
   try simp only[List.getElem_toArray,List.getElem_cons_zero,List.getElem_cons_succ,Act.put,List.setIfInBounds_toArray,List.set_cons_zero,List.set_cons_succ]
   refine wpAnyH_ready (rs:=[13]) (by kernel_rfl) (by simp) ?_
   refine AllReadyH.cons rfl (fun K hK=>?_) AllReadyH.nil
   clear hHeld
   go_simp
   refine hK.out _ _ ⟨h96,h99⟩ (fun hHeld=>?_)
   clear hK K
   try simp only[List.getElem_toArray,List.getElem_cons_zero,List.getElem_cons_succ,Act.put,List.setIfInBounds_toArray,List.set_cons_zero,List.set_cons_succ]
   refine wpAnyH_take (i:=14) (v:=?_) rfl (by kernel_rfl) (by kernel_rfl) (by kernel_rfl) (fun _ _ _ h=>h) (Or.inl ⟨by rfl,?_⟩) hHeld ?_
   rotate_left
   ·intro w hSw;obtain⟨hS1,hS2⟩:=hSw;go_simp
    try with_reducible rfl
   try simp only[List.getElem_toArray,List.getElem_cons_zero,List.getElem_cons_succ,Act.put,List.setIfInBounds_toArray,List.set_cons_zero,List.set_cons_succ]
   refine wpAnyH_done (by kernel_rfl) ?_ _
   clear hHeld
   refine NoPanic.normal ?_
   have O4:=hid (show Own (w3.setCell ⟨w.heap.size,100,none⟩ (.int .i64 (nzE m2.se 40))) (w.heap.size+2) A3 c3 (nzL m2.se z 40) from Own.setC (O3.out.more (base':=w.heap.size+2) (by have:=MM.out.lt;exact this)) (by omega) 100 _)
   obtain⟨W4,hW4⟩: ∃W4,W4=w3.setCell ⟨w.heap.size,100,none⟩ (.int .i64 (nzE m2.se 40)):=⟨_,rfl⟩
   clear c96 c99 c100 d96 d99 d100 h96 h99 g100 hq hwz MM KN KF
   rw[<-hW4] at M4 O4|-
   clear hW4 M3 O3
   have K3:=hid (K2.out.se (nzE m2.se 40))
   have rg4:W4.rangeAt w.heap.size 16 (ints m2.e):=M4.out.A.E K3.out
   have c98:W4.cell? ⟨w.heap.size,98,none⟩=some (.int .i64 m2.la):=M4.out.A.cla K3.out
   have c97:W4.cell? ⟨w.heap.size,97,none⟩=some (.int .i64 m2.pi):=M4.out.A.cpi K3.out
   have c99:W4.cell? ⟨w.heap.size,99,none⟩=some (.int .i64 m2.er):=M4.out.A.cer K3.out
   have hu80:=Tryd.underlying28
   have hi80:(Tryd.prog.info? 28).map (·.size)=some (ints m2.e).length:=by rw[ints_len,K2.out.e];exact size80k
   have R4:=hid (show Rs W4.drew W4.drew.heap.size A3 (nzL m2.se z 40) from O4.out.reads)
   simp only[Exit.then]
   go_wp2_with fail
   go_region_held3 (fun w'=>w'.rangeAt w.heap.size 16 (ints m2.e)/\w'.cell? ⟨w.heap.size,98,none⟩=some (.int .i64 m2.la)/\w'.cell? ⟨w.heap.size,97,none⟩=some (.int .i64 m2.pi)/\w'.cell? ⟨w.heap.size,99,none⟩=some (.int .i64 m2.er)) (first|exact⟨by assumption,by assumption,by assumption,by assumption⟩|go_keep) (first
    |(go_at_call 74;(with_reducible refine(KG.out _).mono ?_);rintro e' w' ⟨rfl,rfl⟩)
    |(go_at_call 64;(with_reducible refine(KM.out W4.drew A3 c3 R4.out).mono ?_);rintro e' w5 ⟨A5,c5,rfl,hO,hB⟩;have M5:Ms w w5 {m2 with se:=nzE m2.se 40}:=M4.out.drew.below hB;have rg5:w5.rangeAt w.heap.size 16 (ints m2.e):=M5.A.E K3.out;have d98:w5.cell? ⟨w.heap.size,98,none⟩=some (.int .i64 m2.la):=M5.A.cla K3.out;have d97:w5.cell? ⟨w.heap.size,97,none⟩=some (.int .i64 m2.pi):=M5.A.cpi K3.out;have d99:w5.cell? ⟨w.heap.size,99,none⟩=some (.int .i64 m2.er):=M5.A.cer K3.out;have M5:=hid M5;have O5:=hid (hO.more (base':=w.heap.size+2) (by have:=M4.out.lt;exact this));clear hO hB))
   rename_i hHeldZ
   clear hHeldZ
   clear rg4 c98 c97 c99 rg5 d98 d97 d99 hu80 M4 O4 R4 KM KG
   have KL:=hid (keepL_len K2.out.e XL.out)
   have KK:=hid (fun W A c (h:Rs W W.heap.size A x)=>show Calls Tryd.prog 65 #[.agg (ints m2.e).toArray,.slice A 40 c] W (Keeps W m2.e x 40) from keep_any m2.e _ A c 40 W K2.out.e h XL.out (by omega))
   have HI80:=hid hi80
   clear hi80
   simp only[Exit.then]
   go_wp2_with (refine wpList_load_mid rfl 28 (.tmp 61) rfl _ _ rfl (ints m2.e) _ (M5.out.A.E K3.out) Tryd.underlying28 rfl HI80.out ?_)
   refine(KK.out w5 A5 c5 O5.out.reads).mono ?_
   rintro e w6 ⟨rfl,hB⟩
   have M6:=hid (M5.out.below hB)
   have O6:=hid (O5.out.below hB)
   clear hB M5 O5 KK
   have hKE:=hid (show keepA m2.e x 40=keepL m2.e x from rfl)
   rw[hKE.out]
   have M7:=hid (M6.out.ex K3.out _ KL.out)
   have O7:=hid (Own.setCs (g:=w.heap.size) (by omega) (ints (keepL m2.e x)) 16 _ O6.out)
   have SZ:=hid (show(Tryd.prog.info? 28).map (·.size)=some (agi (keepL m2.e x)).size from by rw[agi_size,KL.out];exact size80k)
   have TH:=hid (show w6.there w.heap.size 16 (agi (keepL m2.e x)).size from by rw[agi_size,KL.out];exact M6.out.A.thereE K3.out)
   have OKS:=hid (show(eraN m2).ok by rw[EN.out];exact(K3.out.ex KL.out))
   obtain⟨w7,hw7⟩: ∃w7,w7=w6.setCells w.heap.size 16 (ints (keepL m2.e x)):=⟨_,rfl⟩
   rw[<-hw7] at M7 O7
   have HW7:=hid hw7
   have T7:=hid (show Ms w w7 (eraN m2) by rw[EN.out];exact M7.out)
   clear hw7 M7 EN
   have hRow:=hid (MB.setRow T7.out.R (eraN m2))
   have FIN:=hid (below_setRow T7.out.bel (g:=w.heap.size+1) (by omega) (eraN m2).ag)
   have OF:=hid ((O7.out.setRow (g:=w.heap.size+1) (by omega) (eraN m2).ag).more (base':=w.heap.size) (by omega))
   go_wp2_with (first
    |(refine wpList_store_mid rfl 28 (.tmp 67) (.tmp 65) rfl w.heap.size 16 (agi (keepL m2.e x)) rfl rfl TH.out SZ.out (agi_one _) ?_;rw[show(agi (keepL m2.e x)).toList=ints (keepL m2.e x) from rfl,<-HW7.out])
    |(refine wpList_loadM rfl (.tmp 2) rfl _ (eraN m2) rfl T7.out.A OKS.out ?_)
    |(refine wpList_storeM rfl (.tmp 4) (.tmp 68) rfl _ zeroM (eraN m2) rfl rfl T7.out.R zeroM_ok OKS.out ?_))
   refine bodyPost_ret (v:=_) (hR _ _ _ (eraN m2) rfl hRow.out OKS.out) rfl ?_
   rw[FR.out,FY.out,HE.out]
   exact⟨A5,c5,by rw[XL.out];rfl,OF.out,FIN.out⟩
  ·clear hHeld
   go_simp
   go_at_call 74
   (with_reducible refine(KF.out _).mono ?_)
   rintro e' w' ⟨rfl,rfl⟩
   refine hK.out _ _ ⟨c96,c99⟩ (fun hHeld=>?_)
   clear hK K
   try simp only[List.getElem_toArray,List.getElem_cons_zero,List.getElem_cons_succ,Act.put,List.setIfInBounds_toArray,List.set_cons_zero,List.set_cons_succ]
   refine wpAnyH_take (i:=7) (v:=?_) rfl (by kernel_rfl) (by kernel_rfl) (by kernel_rfl) (fun _ _ _ h=>h) (Or.inl ⟨by rfl,?_⟩) hHeld ?_
   rotate_left
   ·intro w hSw;obtain⟨hS1,hS2⟩:=hSw;go_simp
    try with_reducible rfl
   try simp only[List.getElem_toArray,List.getElem_cons_zero,List.getElem_cons_succ,Act.put,List.setIfInBounds_toArray,List.set_cons_zero,List.set_cons_succ]
   refine wpAnyH_ready (rs:=[1]) (by kernel_rfl) (by simp) ?_
   refine AllReadyH.cons rfl (fun K hK=>?_) AllReadyH.nil
   clear hHeld
   go_simp
   refine hK.out _ _ ⟨c96,c99⟩ (fun hHeld=>?_)
   clear hK K
   try simp only[List.getElem_toArray,List.getElem_cons_zero,List.getElem_cons_succ,Act.put,List.setIfInBounds_toArray,List.set_cons_zero,List.set_cons_succ]
   refine wpAnyH_ready (rs:=[8]) (by kernel_rfl) (by simp) ?_
   refine AllReadyH.cons rfl (fun K hK=>?_) AllReadyH.nil
   clear hHeld
   go_simp
   go_at_call 73
   (with_reducible refine(KN.out W2.drew).mono ?_)
   rintro e' w3 ⟨A3,c3,rfl,hO,hB⟩;have M3:Ms w w3 m2:=MM.out.drew.below hB;have d96:w3.cell? ⟨w.heap.size,96,none⟩=some (.int .i64 m2.ga):=M3.A.cga K2.out;have d99:w3.cell? ⟨w.heap.size,99,none⟩=some (.int .i64 m2.er):=M3.A.cer K2.out;have d100:w3.cell? ⟨w.heap.size,100,none⟩=some (.int .i64 m2.se):=M3.A.cse K2.out;have g100:w3.frozen? ⟨w.heap.size,100,none⟩=false:=MB.frozen M3.A 100;have M4:Ms w (w3.setCell ⟨w.heap.size,100,none⟩ (.int .i64 (nzE m2.se 40))) {m2 with se:=nzE m2.se 40}:=M3.se K2.out (nzE m2.se 40);have h96:(w3.setCell ⟨w.heap.size,100,none⟩ (.int .i64 (nzE m2.se 40))).cell? ⟨w.heap.size,96,none⟩=some (.int .i64 m2.ga):=M4.A.cga (K2.out.se _);have h99:(w3.setCell ⟨w.heap.size,100,none⟩ (.int .i64 (nzE m2.se 40))).cell? ⟨w.heap.size,99,none⟩=some (.int .i64 m2.er):=M4.A.cer (K2.out.se _);have M4:=hid M4;have LT3:=hid M3.lt;have O3:=hid hO;clear hO hB
   refine hK.out _ _ ⟨d96,d99⟩ (fun hHeld=>?_)
   clear hK K
   try simp only[List.getElem_toArray,List.getElem_cons_zero,List.getElem_cons_succ,Act.put,List.setIfInBounds_toArray,List.set_cons_zero,List.set_cons_succ]
   refine wpAnyH_take (i:=9) (v:=?_) rfl (by kernel_rfl) (by kernel_rfl) (by kernel_rfl) (fun _ _ _ h=>h) (Or.inl ⟨by rfl,?_⟩) hHeld ?_
   rotate_left
   ·intro w hSw;obtain⟨hS1,hS2⟩:=hSw;go_simp
    try with_reducible rfl
   try simp only[List.getElem_toArray,List.getElem_cons_zero,List.getElem_cons_succ,Act.put,List.setIfInBounds_toArray,List.set_cons_zero,List.set_cons_succ]
   refine wpAnyH_take (i:=10) (v:=?_) rfl (by kernel_rfl) (by kernel_rfl) (by kernel_rfl) (fun _ _ _ h=>h) (Or.inl ⟨by rfl,?_⟩) hHeld ?_
   rotate_left
   ·intro w hSw;obtain⟨hS1,hS2⟩:=hSw;go_simp
    try with_reducible rfl
   try simp only[List.getElem_toArray,List.getElem_cons_zero,List.getElem_cons_succ,Act.put,List.setIfInBounds_toArray,List.set_cons_zero,List.set_cons_succ]
   refine wpAnyH_take (i:=11) (v:=?_) rfl (by kernel_rfl) (by kernel_rfl) (by kernel_rfl) (fun _ _ _ h=>h) (Or.inl ⟨by rfl,?_⟩) hHeld ?_
   rotate_left
   ·intro w hSw;obtain⟨hS1,hS2⟩:=hSw;go_simp
    try with_reducible rfl
   try simp only[List.getElem_toArray,List.getElem_cons_zero,List.getElem_cons_succ,Act.put,List.setIfInBounds_toArray,List.set_cons_zero,List.set_cons_succ]
   refine wpAnyH_take (i:=12) (v:=?_) rfl (by kernel_rfl) (by kernel_rfl) (by kernel_rfl) (fun _ _ _ h=>h) (Or.inl ⟨by rfl,?_⟩) hHeld ?_
   rotate_left
   ·intro w hSw;obtain⟨hS1,hS2⟩:=hSw;go_simp
    try with_reducible rfl
   try simp only[List.getElem_toArray,List.getElem_cons_zero,List.getElem_cons_succ,Act.put,List.setIfInBounds_toArray,List.set_cons_zero,List.set_cons_succ]
   refine wpAnyH_ready (rs:=[13]) (by kernel_rfl) (by simp) ?_
   refine AllReadyH.cons rfl (fun K hK=>?_) AllReadyH.nil
   clear hHeld
   go_simp
   refine hK.out _ _ ⟨h96,h99⟩ (fun hHeld=>?_)
   clear hK K
   try simp only[List.getElem_toArray,List.getElem_cons_zero,List.getElem_cons_succ,Act.put,List.setIfInBounds_toArray,List.set_cons_zero,List.set_cons_succ]
   refine wpAnyH_take (i:=14) (v:=?_) rfl (by kernel_rfl) (by kernel_rfl) (by kernel_rfl) (fun _ _ _ h=>h) (Or.inl ⟨by rfl,?_⟩) hHeld ?_
   rotate_left
   ·intro w hSw;obtain⟨hS1,hS2⟩:=hSw;go_simp
    try with_reducible rfl
   try simp only[List.getElem_toArray,List.getElem_cons_zero,List.getElem_cons_succ,Act.put,List.setIfInBounds_toArray,List.set_cons_zero,List.set_cons_succ]
   refine wpAnyH_done (by kernel_rfl) ?_ _
   clear hHeld
   refine NoPanic.normal ?_
   have O4:=hid (show Own (w3.setCell ⟨w.heap.size,100,none⟩ (.int .i64 (nzE m2.se 40))) (w.heap.size+2) A3 c3 (nzL m2.se z 40) from Own.setC (O3.out.more (base':=w.heap.size+2) (by have:=MM.out.lt;exact this)) (by omega) 100 _)
   obtain⟨W4,hW4⟩: ∃W4,W4=w3.setCell ⟨w.heap.size,100,none⟩ (.int .i64 (nzE m2.se 40)):=⟨_,rfl⟩
   clear c96 c99 c100 d96 d99 d100 h96 h99 g100 hq hwz MM KN KF
   rw[<-hW4] at M4 O4|-
   clear hW4 M3 O3
   have K3:=hid (K2.out.se (nzE m2.se 40))
   have rg4:W4.rangeAt w.heap.size 16 (ints m2.e):=M4.out.A.E K3.out
   have c98:W4.cell? ⟨w.heap.size,98,none⟩=some (.int .i64 m2.la):=M4.out.A.cla K3.out
   have c97:W4.cell? ⟨w.heap.size,97,none⟩=some (.int .i64 m2.pi):=M4.out.A.cpi K3.out
   have c99:W4.cell? ⟨w.heap.size,99,none⟩=some (.int .i64 m2.er):=M4.out.A.cer K3.out
   have hu80:=Tryd.underlying28
   have hi80:(Tryd.prog.info? 28).map (·.size)=some (ints m2.e).length:=by rw[ints_len,K2.out.e];exact size80k
   have R4:=hid (show Rs W4.drew W4.drew.heap.size A3 (nzL m2.se z 40) from O4.out.reads)
   simp only[Exit.then]
   go_wp2_with fail
   go_region_held3 (fun w'=>w'.rangeAt w.heap.size 16 (ints m2.e)/\w'.cell? ⟨w.heap.size,98,none⟩=some (.int .i64 m2.la)/\w'.cell? ⟨w.heap.size,97,none⟩=some (.int .i64 m2.pi)/\w'.cell? ⟨w.heap.size,99,none⟩=some (.int .i64 m2.er)) (first|exact⟨by assumption,by assumption,by assumption,by assumption⟩|go_keep) (first
    |(go_at_call 74;(with_reducible refine(KG.out _).mono ?_);rintro e' w' ⟨rfl,rfl⟩)
    |(go_at_call 64;(with_reducible refine(KM.out W4.drew A3 c3 R4.out).mono ?_);rintro e' w5 ⟨A5,c5,rfl,hO,hB⟩;have M5:Ms w w5 {m2 with se:=nzE m2.se 40}:=M4.out.drew.below hB;have rg5:w5.rangeAt w.heap.size 16 (ints m2.e):=M5.A.E K3.out;have d98:w5.cell? ⟨w.heap.size,98,none⟩=some (.int .i64 m2.la):=M5.A.cla K3.out;have d97:w5.cell? ⟨w.heap.size,97,none⟩=some (.int .i64 m2.pi):=M5.A.cpi K3.out;have d99:w5.cell? ⟨w.heap.size,99,none⟩=some (.int .i64 m2.er):=M5.A.cer K3.out;have M5:=hid M5;have O5:=hid (hO.more (base':=w.heap.size+2) (by have:=M4.out.lt;exact this));clear hO hB))
   rename_i hHeldZ
   clear hHeldZ
   clear rg4 c98 c97 c99 rg5 d98 d97 d99 hu80 M4 O4 R4 KM KG
   have KL:=hid (keepL_len K2.out.e XL.out)
   have KK:=hid (fun W A c (h:Rs W W.heap.size A x)=>show Calls Tryd.prog 65 #[.agg (ints m2.e).toArray,.slice A 40 c] W (Keeps W m2.e x 40) from keep_any m2.e _ A c 40 W K2.out.e h XL.out (by omega))
   have HI80:=hid hi80
   clear hi80
   simp only[Exit.then]
   go_wp2_with (refine wpList_load_mid rfl 28 (.tmp 61) rfl _ _ rfl (ints m2.e) _ (M5.out.A.E K3.out) Tryd.underlying28 rfl HI80.out ?_)
   refine(KK.out w5 A5 c5 O5.out.reads).mono ?_
   rintro e w6 ⟨rfl,hB⟩
   have M6:=hid (M5.out.below hB)
   have O6:=hid (O5.out.below hB)
   clear hB M5 O5 KK
   have hKE:=hid (show keepA m2.e x 40=keepL m2.e x from rfl)
   rw[hKE.out]
   have M7:=hid (M6.out.ex K3.out _ KL.out)
   have O7:=hid (Own.setCs (g:=w.heap.size) (by omega) (ints (keepL m2.e x)) 16 _ O6.out)
   have SZ:=hid (show(Tryd.prog.info? 28).map (·.size)=some (agi (keepL m2.e x)).size from by rw[agi_size,KL.out];exact size80k)
   have TH:=hid (show w6.there w.heap.size 16 (agi (keepL m2.e x)).size from by rw[agi_size,KL.out];exact M6.out.A.thereE K3.out)
   have OKS:=hid (show(eraN m2).ok by rw[EN.out];exact(K3.out.ex KL.out))
   obtain⟨w7,hw7⟩: ∃w7,w7=w6.setCells w.heap.size 16 (ints (keepL m2.e x)):=⟨_,rfl⟩
   rw[<-hw7] at M7 O7
   have HW7:=hid hw7
   have T7:=hid (show Ms w w7 (eraN m2) by rw[EN.out];exact M7.out)
   clear hw7 M7 EN
   have hRow:=hid (MB.setRow T7.out.R (eraN m2))
   have FIN:=hid (below_setRow T7.out.bel (g:=w.heap.size+1) (by omega) (eraN m2).ag)
   have OF:=hid ((O7.out.setRow (g:=w.heap.size+1) (by omega) (eraN m2).ag).more (base':=w.heap.size) (by omega))
   go_wp2_with (first
    |(refine wpList_store_mid rfl 28 (.tmp 67) (.tmp 65) rfl w.heap.size 16 (agi (keepL m2.e x)) rfl rfl TH.out SZ.out (agi_one _) ?_;rw[show(agi (keepL m2.e x)).toList=ints (keepL m2.e x) from rfl,<-HW7.out])
    |(refine wpList_loadM rfl (.tmp 2) rfl _ (eraN m2) rfl T7.out.A OKS.out ?_)
    |(refine wpList_storeM rfl (.tmp 4) (.tmp 68) rfl _ zeroM (eraN m2) rfl rfl T7.out.R zeroM_ok OKS.out ?_))
   refine bodyPost_ret (v:=_) (hR _ _ _ (eraN m2) rfl hRow.out OKS.out) rfl ?_
   rw[FR.out,FY.out,HE.out]
   exact⟨A5,c5,by rw[XL.out];rfl,OF.out,FIN.out⟩
 ·have MM:=hid (show Ms w w1 m2 by
   rw[hm2]
   unfold eraP er1
   rw[if_neg (by omega)]
   exact S1.out)
  clear hm2 h1 h2 a5 f5
  go_wp2_with fail
  obtain⟨W2,hW2⟩: ∃W2,W2=w1:=⟨_,rfl⟩
  rw[<-hW2] at MM|-
  clear hW2
  have c96:W2.cell? ⟨w.heap.size,96,none⟩=some (.int .i64 m2.ga):=MM.out.A.cga K2.out
  have c99:W2.cell? ⟨w.heap.size,99,none⟩=some (.int .i64 m2.er):=MM.out.A.cer K2.out
  have c100:W2.cell? ⟨w.heap.size,100,none⟩=some (.int .i64 m2.se):=MM.out.A.cse K2.out
  have KN:=hid (fun W=>show Calls Tryd.prog 73 #[.int .i64 m2.se,.int .i64 (eraZ m2),.int .i64 40] W (NzA W m2.se (eraZ m2) 40) from cnoise_any m2.se (eraZ m2) 40 W (by omega))
  have KM:=hid (fun W A c (hr:Rs W W.heap.size A (nzL m2.se (eraZ m2) 40))=>show Calls Tryd.prog 64 #[.agg (ints m2.e).toArray,.int .i64 m2.la,.int .i64 (fade m2.pi m2.er),.slice A 40 c] W (fun e w'=> ∃A c,e= .returned (.tuple #[.slice A 40 c,.int .i64 0])/\Own w' W.heap.size A c (eraX m2)/\Below W.heap.size W w') from by
   refine(mix_any m2.e _ m2.la (fade m2.pi m2.er) A c 40 W K2.out.e hr (nzL_len _ _ _) (by omega)).mono ?_
   rintro e w' ⟨A',c',h1,h2,h3⟩
   rw[(mx_good (h:=m2.e) (x:=nzL m2.se (eraZ m2) 40) (eraX_good HLA.out)).2] at h1
   have hl:=eraX_len HLA.out
   unfold eraX at hl
   rw[hl] at h1
   exact⟨A',c',h1,h2,h3⟩)
  have XL:=hid (eraX_len HLA.out)
  have EN:=hid (show eraN m2={m2 with se:=nzE m2.se 40,e:=keepL m2.e (eraX m2)} from rfl)
  have KF0:=fun W=>fade_any m2.ga m2.er W
  have KG0:=fun W=>fade_any m2.pi m2.er W
  have fb:=fade_range m2.ga m2.er
  have hwz:IntKind.i64.wrap (eraZ m2)=eraZ m2:=by unfold eraZ;rw[IntKind.wrap_i64];omega
  have hq:(fade m2.ga m2.er).tdiv 4=eraZ m2:=by unfold eraZ;exact Int.tdiv_eq_ediv_of_nonneg fb.1
  generalize eraX m2=x at*
  generalize eraZ m2=z at*
  generalize fade m2.ga m2.er=f at*
  generalize fade m2.pi m2.er=f2 at*
  have KF:=hid KF0
  have KG:=hid KG0
  clear KF0 KG0 fb
  refine wp_region_noPanic ?_
  refine wp_region_held_drew (S:=fun w'=>w'.cell? ⟨w.heap.size,96,none⟩=some (.int .i64 m2.ga)/\w'.cell? ⟨w.heap.size,99,none⟩=some (.int .i64 m2.er)) (by kernel_rfl) ⟨c96,c99⟩ (fun hHeld=>?_)
  refine wpAnyH_take (i:=0) (v:=?_) rfl (by kernel_rfl) (by kernel_rfl) (by kernel_rfl) (fun _ _ _ h=>h) (Or.inl ⟨by rfl,?_⟩) hHeld ?_
  rotate_left
  ·intro w hSw;obtain⟨hS1,hS2⟩:=hSw;go_simp
   try with_reducible rfl
  try simp only[List.getElem_toArray,List.getElem_cons_zero,List.getElem_cons_succ,Act.put,List.setIfInBounds_toArray,List.set_cons_zero,List.set_cons_succ]
  refine wpAnyH_take (i:=2) (v:=?_) rfl (by kernel_rfl) (by kernel_rfl) (by kernel_rfl) (fun _ _ _ h=>h) (Or.inl ⟨by rfl,?_⟩) hHeld ?_
  rotate_left
  ·intro w hSw;obtain⟨hS1,hS2⟩:=hSw;go_simp
   try with_reducible rfl
  try simp only[List.getElem_toArray,List.getElem_cons_zero,List.getElem_cons_succ,Act.put,List.setIfInBounds_toArray,List.set_cons_zero,List.set_cons_succ]
  refine wpAnyH_take (i:=3) (v:=?_) rfl (by kernel_rfl) (by kernel_rfl) (by kernel_rfl) (fun _ _ _ h=>h) (Or.inl ⟨by rfl,?_⟩) hHeld ?_
  rotate_left
  ·intro w hSw;obtain⟨hS1,hS2⟩:=hSw;go_simp
   try with_reducible rfl
  try simp only[List.getElem_toArray,List.getElem_cons_zero,List.getElem_cons_succ,Act.put,List.setIfInBounds_toArray,List.set_cons_zero,List.set_cons_succ]
  refine wpAnyH_take (i:=4) (v:=?_) rfl (by kernel_rfl) (by kernel_rfl) (by kernel_rfl) (fun _ _ _ h=>h) (Or.inl ⟨by rfl,?_⟩) hHeld ?_
  rotate_left
  ·intro w hSw;obtain⟨hS1,hS2⟩:=hSw;go_simp
   try with_reducible rfl
  try simp only[List.getElem_toArray,List.getElem_cons_zero,List.getElem_cons_succ,Act.put,List.setIfInBounds_toArray,List.set_cons_zero,List.set_cons_succ]
  refine wpAnyH_take (i:=5) (v:=?_) rfl (by kernel_rfl) (by kernel_rfl) (by kernel_rfl) (fun _ _ _ h=>h) (Or.inl ⟨by rfl,?_⟩) hHeld ?_
  rotate_left
  ·intro w hSw;obtain⟨hS1,hS2⟩:=hSw;go_simp
   try with_reducible rfl
  try simp only[List.getElem_toArray,List.getElem_cons_zero,List.getElem_cons_succ,Act.put,List.setIfInBounds_toArray,List.set_cons_zero,List.set_cons_succ]
  refine wpAnyH_ready (rs:=[1,6]) (by kernel_rfl) (by simp) ?_
  refine AllReadyH.cons rfl (fun K hK=>?_) (AllReadyH.cons rfl (fun K hK=>?_) AllReadyH.nil)
  ·clear hHeld
   go_simp
   refine hK.out _ _ ⟨c96,c99⟩ (fun hHeld=>?_)
   clear hK K
   try simp only[List.getElem_toArray,List.getElem_cons_zero,List.getElem_cons_succ,Act.put,List.setIfInBounds_toArray,List.set_cons_zero,List.set_cons_succ]
   refine wpAnyH_ready (rs:=[6]) (by kernel_rfl) (by simp) ?_
   refine AllReadyH.cons rfl (fun K hK=>?_) AllReadyH.nil
   clear hHeld
   go_simp
   go_at_call 74
   (with_reducible refine(KF.out _).mono ?_)
   rintro e' w' ⟨rfl,rfl⟩
   refine hK.out _ _ ⟨c96,c99⟩ (fun hHeld=>?_)
   clear hK K
   try simp only[List.getElem_toArray,List.getElem_cons_zero,List.getElem_cons_succ,Act.put,List.setIfInBounds_toArray,List.set_cons_zero,List.set_cons_succ]
   refine wpAnyH_take (i:=7) (v:=?_) rfl (by kernel_rfl) (by kernel_rfl) (by kernel_rfl) (fun _ _ _ h=>h) (Or.inl ⟨by rfl,?_⟩) hHeld ?_
   rotate_left
   ·intro w hSw;obtain⟨hS1,hS2⟩:=hSw;go_simp
    try with_reducible rfl
   try simp only[List.getElem_toArray,List.getElem_cons_zero,List.getElem_cons_succ,Act.put,List.setIfInBounds_toArray,List.set_cons_zero,List.set_cons_succ]
   refine wpAnyH_ready (rs:=[8]) (by kernel_rfl) (by simp) ?_
   refine AllReadyH.cons rfl (fun K hK=>?_) AllReadyH.nil
   clear hHeld
   go_simp
   go_at_call 73
   (with_reducible refine(KN.out W2.drew).mono ?_)
   rintro e' w3 ⟨A3,c3,rfl,hO,hB⟩;have M3:Ms w w3 m2:=MM.out.drew.below hB;have d96:w3.cell? ⟨w.heap.size,96,none⟩=some (.int .i64 m2.ga):=M3.A.cga K2.out;have d99:w3.cell? ⟨w.heap.size,99,none⟩=some (.int .i64 m2.er):=M3.A.cer K2.out;have d100:w3.cell? ⟨w.heap.size,100,none⟩=some (.int .i64 m2.se):=M3.A.cse K2.out;have g100:w3.frozen? ⟨w.heap.size,100,none⟩=false:=MB.frozen M3.A 100;have M4:Ms w (w3.setCell ⟨w.heap.size,100,none⟩ (.int .i64 (nzE m2.se 40))) {m2 with se:=nzE m2.se 40}:=M3.se K2.out (nzE m2.se 40);have h96:(w3.setCell ⟨w.heap.size,100,none⟩ (.int .i64 (nzE m2.se 40))).cell? ⟨w.heap.size,96,none⟩=some (.int .i64 m2.ga):=M4.A.cga (K2.out.se _);have h99:(w3.setCell ⟨w.heap.size,100,none⟩ (.int .i64 (nzE m2.se 40))).cell? ⟨w.heap.size,99,none⟩=some (.int .i64 m2.er):=M4.A.cer (K2.out.se _);have M4:=hid M4;have LT3:=hid M3.lt;have O3:=hid hO;clear hO hB
   refine hK.out _ _ ⟨d96,d99⟩ (fun hHeld=>?_)
   clear hK K
   try simp only[List.getElem_toArray,List.getElem_cons_zero,List.getElem_cons_succ,Act.put,List.setIfInBounds_toArray,List.set_cons_zero,List.set_cons_succ]
   refine wpAnyH_take (i:=9) (v:=?_) rfl (by kernel_rfl) (by kernel_rfl) (by kernel_rfl) (fun _ _ _ h=>h) (Or.inl ⟨by rfl,?_⟩) hHeld ?_
   rotate_left
   ·intro w hSw;obtain⟨hS1,hS2⟩:=hSw;go_simp
    try with_reducible rfl
   try simp only[List.getElem_toArray,List.getElem_cons_zero,List.getElem_cons_succ,Act.put,List.setIfInBounds_toArray,List.set_cons_zero,List.set_cons_succ]
   refine wpAnyH_take (i:=10) (v:=?_) rfl (by kernel_rfl) (by kernel_rfl) (by kernel_rfl) (fun _ _ _ h=>h) (Or.inl ⟨by rfl,?_⟩) hHeld ?_
   rotate_left
   ·intro w hSw;obtain⟨hS1,hS2⟩:=hSw;go_simp
    try with_reducible rfl
   try simp only[List.getElem_toArray,List.getElem_cons_zero,List.getElem_cons_succ,Act.put,List.setIfInBounds_toArray,List.set_cons_zero,List.set_cons_succ]
   refine wpAnyH_take (i:=11) (v:=?_) rfl (by kernel_rfl) (by kernel_rfl) (by kernel_rfl) (fun _ _ _ h=>h) (Or.inl ⟨by rfl,?_⟩) hHeld ?_
   rotate_left
   ·intro w hSw;obtain⟨hS1,hS2⟩:=hSw;go_simp
    try with_reducible rfl
   try simp only[List.getElem_toArray,List.getElem_cons_zero,List.getElem_cons_succ,Act.put,List.setIfInBounds_toArray,List.set_cons_zero,List.set_cons_succ]
   refine wpAnyH_take (i:=12) (v:=?_) rfl (by kernel_rfl) (by kernel_rfl) (by kernel_rfl) (fun _ _ _ h=>h) (Or.inl ⟨by rfl,?_⟩) hHeld ?_
   rotate_left
   ·intro w hSw;obtain⟨hS1,hS2⟩:=hSw;go_simp
    try with_reducible rfl
   try simp only[List.getElem_toArray,List.getElem_cons_zero,List.getElem_cons_succ,Act.put,List.setIfInBounds_toArray,List.set_cons_zero,List.set_cons_succ]
   refine wpAnyH_ready (rs:=[13]) (by kernel_rfl) (by simp) ?_
   refine AllReadyH.cons rfl (fun K hK=>?_) AllReadyH.nil
   clear hHeld
   go_simp
   refine hK.out _ _ ⟨h96,h99⟩ (fun hHeld=>?_)
   clear hK K
   try simp only[List.getElem_toArray,List.getElem_cons_zero,List.getElem_cons_succ,Act.put,List.setIfInBounds_toArray,List.set_cons_zero,List.set_cons_succ]
   refine wpAnyH_take (i:=14) (v:=?_) rfl (by kernel_rfl) (by kernel_rfl) (by kernel_rfl) (fun _ _ _ h=>h) (Or.inl ⟨by rfl,?_⟩) hHeld ?_
   rotate_left
   ·intro w hSw;obtain⟨hS1,hS2⟩:=hSw;go_simp
    try with_reducible rfl
   try simp only[List.getElem_toArray,List.getElem_cons_zero,List.getElem_cons_succ,Act.put,List.setIfInBounds_toArray,List.set_cons_zero,List.set_cons_succ]
   refine wpAnyH_done (by kernel_rfl) ?_ _
   clear hHeld
   refine NoPanic.normal ?_
   have O4:=hid (show Own (w3.setCell ⟨w.heap.size,100,none⟩ (.int .i64 (nzE m2.se 40))) (w.heap.size+2) A3 c3 (nzL m2.se z 40) from Own.setC (O3.out.more (base':=w.heap.size+2) (by have:=MM.out.lt;exact this)) (by omega) 100 _)
   obtain⟨W4,hW4⟩: ∃W4,W4=w3.setCell ⟨w.heap.size,100,none⟩ (.int .i64 (nzE m2.se 40)):=⟨_,rfl⟩
   clear c96 c99 c100 d96 d99 d100 h96 h99 g100 hq hwz MM KN KF
   rw[<-hW4] at M4 O4|-
   clear hW4 M3 O3
   have K3:=hid (K2.out.se (nzE m2.se 40))
   have rg4:W4.rangeAt w.heap.size 16 (ints m2.e):=M4.out.A.E K3.out
   have c98:W4.cell? ⟨w.heap.size,98,none⟩=some (.int .i64 m2.la):=M4.out.A.cla K3.out
   have c97:W4.cell? ⟨w.heap.size,97,none⟩=some (.int .i64 m2.pi):=M4.out.A.cpi K3.out
   have c99:W4.cell? ⟨w.heap.size,99,none⟩=some (.int .i64 m2.er):=M4.out.A.cer K3.out
   have hu80:=Tryd.underlying28
   have hi80:(Tryd.prog.info? 28).map (·.size)=some (ints m2.e).length:=by rw[ints_len,K2.out.e];exact size80k
   have R4:=hid (show Rs W4.drew W4.drew.heap.size A3 (nzL m2.se z 40) from O4.out.reads)
   simp only[Exit.then]
   go_wp2_with fail
   go_region_held3 (fun w'=>w'.rangeAt w.heap.size 16 (ints m2.e)/\w'.cell? ⟨w.heap.size,98,none⟩=some (.int .i64 m2.la)/\w'.cell? ⟨w.heap.size,97,none⟩=some (.int .i64 m2.pi)/\w'.cell? ⟨w.heap.size,99,none⟩=some (.int .i64 m2.er)) (first|exact⟨by assumption,by assumption,by assumption,by assumption⟩|go_keep) (first
    |(go_at_call 74;(with_reducible refine(KG.out _).mono ?_);rintro e' w' ⟨rfl,rfl⟩)
    |(go_at_call 64;(with_reducible refine(KM.out W4.drew A3 c3 R4.out).mono ?_);rintro e' w5 ⟨A5,c5,rfl,hO,hB⟩;have M5:Ms w w5 {m2 with se:=nzE m2.se 40}:=M4.out.drew.below hB;have rg5:w5.rangeAt w.heap.size 16 (ints m2.e):=M5.A.E K3.out;have d98:w5.cell? ⟨w.heap.size,98,none⟩=some (.int .i64 m2.la):=M5.A.cla K3.out;have d97:w5.cell? ⟨w.heap.size,97,none⟩=some (.int .i64 m2.pi):=M5.A.cpi K3.out;have d99:w5.cell? ⟨w.heap.size,99,none⟩=some (.int .i64 m2.er):=M5.A.cer K3.out;have M5:=hid M5;have O5:=hid (hO.more (base':=w.heap.size+2) (by have:=M4.out.lt;exact this));clear hO hB))
   rename_i hHeldZ
   clear hHeldZ
   clear rg4 c98 c97 c99 rg5 d98 d97 d99 hu80 M4 O4 R4 KM KG
   have KL:=hid (keepL_len K2.out.e XL.out)
   have KK:=hid (fun W A c (h:Rs W W.heap.size A x)=>show Calls Tryd.prog 65 #[.agg (ints m2.e).toArray,.slice A 40 c] W (Keeps W m2.e x 40) from keep_any m2.e _ A c 40 W K2.out.e h XL.out (by omega))
   have HI80:=hid hi80
   clear hi80
   simp only[Exit.then]
   go_wp2_with (refine wpList_load_mid rfl 28 (.tmp 61) rfl _ _ rfl (ints m2.e) _ (M5.out.A.E K3.out) Tryd.underlying28 rfl HI80.out ?_)
   refine(KK.out w5 A5 c5 O5.out.reads).mono ?_
   rintro e w6 ⟨rfl,hB⟩
   have M6:=hid (M5.out.below hB)
   have O6:=hid (O5.out.below hB)
   clear hB M5 O5 KK
   have hKE:=hid (show keepA m2.e x 40=keepL m2.e x from rfl)
   rw[hKE.out]
   have M7:=hid (M6.out.ex K3.out _ KL.out)
   have O7:=hid (Own.setCs (g:=w.heap.size) (by omega) (ints (keepL m2.e x)) 16 _ O6.out)
   have SZ:=hid (show(Tryd.prog.info? 28).map (·.size)=some (agi (keepL m2.e x)).size from by rw[agi_size,KL.out];exact size80k)
   have TH:=hid (show w6.there w.heap.size 16 (agi (keepL m2.e x)).size from by rw[agi_size,KL.out];exact M6.out.A.thereE K3.out)
   have OKS:=hid (show(eraN m2).ok by rw[EN.out];exact(K3.out.ex KL.out))
   obtain⟨w7,hw7⟩: ∃w7,w7=w6.setCells w.heap.size 16 (ints (keepL m2.e x)):=⟨_,rfl⟩
   rw[<-hw7] at M7 O7
   have HW7:=hid hw7
   have T7:=hid (show Ms w w7 (eraN m2) by rw[EN.out];exact M7.out)
   clear hw7 M7 EN
   have hRow:=hid (MB.setRow T7.out.R (eraN m2))
   have FIN:=hid (below_setRow T7.out.bel (g:=w.heap.size+1) (by omega) (eraN m2).ag)
   have OF:=hid ((O7.out.setRow (g:=w.heap.size+1) (by omega) (eraN m2).ag).more (base':=w.heap.size) (by omega))
   go_wp2_with (first
    |(refine wpList_store_mid rfl 28 (.tmp 67) (.tmp 65) rfl w.heap.size 16 (agi (keepL m2.e x)) rfl rfl TH.out SZ.out (agi_one _) ?_;rw[show(agi (keepL m2.e x)).toList=ints (keepL m2.e x) from rfl,<-HW7.out])
    |(refine wpList_loadM rfl (.tmp 2) rfl _ (eraN m2) rfl T7.out.A OKS.out ?_)
    |(refine wpList_storeM rfl (.tmp 4) (.tmp 68) rfl _ zeroM (eraN m2) rfl rfl T7.out.R zeroM_ok OKS.out ?_))
   refine bodyPost_ret (v:=_) (hR _ _ _ (eraN m2) rfl hRow.out OKS.out) rfl ?_
   rw[FR.out,FY.out,HE.out]
   exact⟨A5,c5,by rw[XL.out];rfl,OF.out,FIN.out⟩
  ·clear hHeld
   go_simp
   go_at_call 74
   (with_reducible refine(KF.out _).mono ?_)
   rintro e' w' ⟨rfl,rfl⟩
   refine hK.out _ _ ⟨c96,c99⟩ (fun hHeld=>?_)
   clear hK K
   try simp only[List.getElem_toArray,List.getElem_cons_zero,List.getElem_cons_succ,Act.put,List.setIfInBounds_toArray,List.set_cons_zero,List.set_cons_succ]
   refine wpAnyH_take (i:=7) (v:=?_) rfl (by kernel_rfl) (by kernel_rfl) (by kernel_rfl) (fun _ _ _ h=>h) (Or.inl ⟨by rfl,?_⟩) hHeld ?_
   rotate_left
   ·intro w hSw;obtain⟨hS1,hS2⟩:=hSw;go_simp
    try with_reducible rfl
   try simp only[List.getElem_toArray,List.getElem_cons_zero,List.getElem_cons_succ,Act.put,List.setIfInBounds_toArray,List.set_cons_zero,List.set_cons_succ]
   refine wpAnyH_ready (rs:=[1]) (by kernel_rfl) (by simp) ?_
   refine AllReadyH.cons rfl (fun K hK=>?_) AllReadyH.nil
   clear hHeld
   go_simp
   refine hK.out _ _ ⟨c96,c99⟩ (fun hHeld=>?_)
   clear hK K
   try simp only[List.getElem_toArray,List.getElem_cons_zero,List.getElem_cons_succ,Act.put,List.setIfInBounds_toArray,List.set_cons_zero,List.set_cons_succ]
   refine wpAnyH_ready (rs:=[8]) (by kernel_rfl) (by simp) ?_
   refine AllReadyH.cons rfl (fun K hK=>?_) AllReadyH.nil
   clear hHeld
   go_simp
   go_at_call 73
   (with_reducible refine(KN.out W2.drew).mono ?_)
   rintro e' w3 ⟨A3,c3,rfl,hO,hB⟩;have M3:Ms w w3 m2:=MM.out.drew.below hB;have d96:w3.cell? ⟨w.heap.size,96,none⟩=some (.int .i64 m2.ga):=M3.A.cga K2.out;have d99:w3.cell? ⟨w.heap.size,99,none⟩=some (.int .i64 m2.er):=M3.A.cer K2.out;have d100:w3.cell? ⟨w.heap.size,100,none⟩=some (.int .i64 m2.se):=M3.A.cse K2.out;have g100:w3.frozen? ⟨w.heap.size,100,none⟩=false:=MB.frozen M3.A 100;have M4:Ms w (w3.setCell ⟨w.heap.size,100,none⟩ (.int .i64 (nzE m2.se 40))) {m2 with se:=nzE m2.se 40}:=M3.se K2.out (nzE m2.se 40);have h96:(w3.setCell ⟨w.heap.size,100,none⟩ (.int .i64 (nzE m2.se 40))).cell? ⟨w.heap.size,96,none⟩=some (.int .i64 m2.ga):=M4.A.cga (K2.out.se _);have h99:(w3.setCell ⟨w.heap.size,100,none⟩ (.int .i64 (nzE m2.se 40))).cell? ⟨w.heap.size,99,none⟩=some (.int .i64 m2.er):=M4.A.cer (K2.out.se _);have M4:=hid M4;have LT3:=hid M3.lt;have O3:=hid hO;clear hO hB
   refine hK.out _ _ ⟨d96,d99⟩ (fun hHeld=>?_)
   clear hK K
   try simp only[List.getElem_toArray,List.getElem_cons_zero,List.getElem_cons_succ,Act.put,List.setIfInBounds_toArray,List.set_cons_zero,List.set_cons_succ]
   refine wpAnyH_take (i:=9) (v:=?_) rfl (by kernel_rfl) (by kernel_rfl) (by kernel_rfl) (fun _ _ _ h=>h) (Or.inl ⟨by rfl,?_⟩) hHeld ?_
   rotate_left
   ·intro w hSw;obtain⟨hS1,hS2⟩:=hSw;go_simp
    try with_reducible rfl
   try simp only[List.getElem_toArray,List.getElem_cons_zero,List.getElem_cons_succ,Act.put,List.setIfInBounds_toArray,List.set_cons_zero,List.set_cons_succ]
   refine wpAnyH_take (i:=10) (v:=?_) rfl (by kernel_rfl) (by kernel_rfl) (by kernel_rfl) (fun _ _ _ h=>h) (Or.inl ⟨by rfl,?_⟩) hHeld ?_
   rotate_left
   ·intro w hSw;obtain⟨hS1,hS2⟩:=hSw;go_simp
    try with_reducible rfl
   try simp only[List.getElem_toArray,List.getElem_cons_zero,List.getElem_cons_succ,Act.put,List.setIfInBounds_toArray,List.set_cons_zero,List.set_cons_succ]
   refine wpAnyH_take (i:=11) (v:=?_) rfl (by kernel_rfl) (by kernel_rfl) (by kernel_rfl) (fun _ _ _ h=>h) (Or.inl ⟨by rfl,?_⟩) hHeld ?_
   rotate_left
   ·intro w hSw;obtain⟨hS1,hS2⟩:=hSw;go_simp
    try with_reducible rfl
   try simp only[List.getElem_toArray,List.getElem_cons_zero,List.getElem_cons_succ,Act.put,List.setIfInBounds_toArray,List.set_cons_zero,List.set_cons_succ]
   refine wpAnyH_take (i:=12) (v:=?_) rfl (by kernel_rfl) (by kernel_rfl) (by kernel_rfl) (fun _ _ _ h=>h) (Or.inl ⟨by rfl,?_⟩) hHeld ?_
   rotate_left
   ·intro w hSw;obtain⟨hS1,hS2⟩:=hSw;go_simp
    try with_reducible rfl
   try simp only[List.getElem_toArray,List.getElem_cons_zero,List.getElem_cons_succ,Act.put,List.setIfInBounds_toArray,List.set_cons_zero,List.set_cons_succ]
   refine wpAnyH_ready (rs:=[13]) (by kernel_rfl) (by simp) ?_
   refine AllReadyH.cons rfl (fun K hK=>?_) AllReadyH.nil
   clear hHeld
   go_simp
   refine hK.out _ _ ⟨h96,h99⟩ (fun hHeld=>?_)
   clear hK K
   try simp only[List.getElem_toArray,List.getElem_cons_zero,List.getElem_cons_succ,Act.put,List.setIfInBounds_toArray,List.set_cons_zero,List.set_cons_succ]
   refine wpAnyH_take (i:=14) (v:=?_) rfl (by kernel_rfl) (by kernel_rfl) (by kernel_rfl) (fun _ _ _ h=>h) (Or.inl ⟨by rfl,?_⟩) hHeld ?_
   rotate_left
   ·intro w hSw;obtain⟨hS1,hS2⟩:=hSw;go_simp
    try with_reducible rfl
   try simp only[List.getElem_toArray,List.getElem_cons_zero,List.getElem_cons_succ,Act.put,List.setIfInBounds_toArray,List.set_cons_zero,List.set_cons_succ]
   refine wpAnyH_done (by kernel_rfl) ?_ _
   clear hHeld
   refine NoPanic.normal ?_
   have O4:=hid (show Own (w3.setCell ⟨w.heap.size,100,none⟩ (.int .i64 (nzE m2.se 40))) (w.heap.size+2) A3 c3 (nzL m2.se z 40) from Own.setC (O3.out.more (base':=w.heap.size+2) (by have:=MM.out.lt;exact this)) (by omega) 100 _)
   obtain⟨W4,hW4⟩: ∃W4,W4=w3.setCell ⟨w.heap.size,100,none⟩ (.int .i64 (nzE m2.se 40)):=⟨_,rfl⟩
   clear c96 c99 c100 d96 d99 d100 h96 h99 g100 hq hwz MM KN KF
   rw[<-hW4] at M4 O4|-
   clear hW4 M3 O3
   have K3:=hid (K2.out.se (nzE m2.se 40))
   have rg4:W4.rangeAt w.heap.size 16 (ints m2.e):=M4.out.A.E K3.out
   have c98:W4.cell? ⟨w.heap.size,98,none⟩=some (.int .i64 m2.la):=M4.out.A.cla K3.out
   have c97:W4.cell? ⟨w.heap.size,97,none⟩=some (.int .i64 m2.pi):=M4.out.A.cpi K3.out
   have c99:W4.cell? ⟨w.heap.size,99,none⟩=some (.int .i64 m2.er):=M4.out.A.cer K3.out
   have hu80:=Tryd.underlying28
   have hi80:(Tryd.prog.info? 28).map (·.size)=some (ints m2.e).length:=by rw[ints_len,K2.out.e];exact size80k
   have R4:=hid (show Rs W4.drew W4.drew.heap.size A3 (nzL m2.se z 40) from O4.out.reads)
   simp only[Exit.then]
   go_wp2_with fail
   go_region_held3 (fun w'=>w'.rangeAt w.heap.size 16 (ints m2.e)/\w'.cell? ⟨w.heap.size,98,none⟩=some (.int .i64 m2.la)/\w'.cell? ⟨w.heap.size,97,none⟩=some (.int .i64 m2.pi)/\w'.cell? ⟨w.heap.size,99,none⟩=some (.int .i64 m2.er)) (first|exact⟨by assumption,by assumption,by assumption,by assumption⟩|go_keep) (first
    |(go_at_call 74;(with_reducible refine(KG.out _).mono ?_);rintro e' w' ⟨rfl,rfl⟩)
    |(go_at_call 64;(with_reducible refine(KM.out W4.drew A3 c3 R4.out).mono ?_);rintro e' w5 ⟨A5,c5,rfl,hO,hB⟩;have M5:Ms w w5 {m2 with se:=nzE m2.se 40}:=M4.out.drew.below hB;have rg5:w5.rangeAt w.heap.size 16 (ints m2.e):=M5.A.E K3.out;have d98:w5.cell? ⟨w.heap.size,98,none⟩=some (.int .i64 m2.la):=M5.A.cla K3.out;have d97:w5.cell? ⟨w.heap.size,97,none⟩=some (.int .i64 m2.pi):=M5.A.cpi K3.out;have d99:w5.cell? ⟨w.heap.size,99,none⟩=some (.int .i64 m2.er):=M5.A.cer K3.out;have M5:=hid M5;have O5:=hid (hO.more (base':=w.heap.size+2) (by have:=M4.out.lt;exact this));clear hO hB))
   rename_i hHeldZ
   clear hHeldZ
   clear rg4 c98 c97 c99 rg5 d98 d97 d99 hu80 M4 O4 R4 KM KG
   have KL:=hid (keepL_len K2.out.e XL.out)
   have KK:=hid (fun W A c (h:Rs W W.heap.size A x)=>show Calls Tryd.prog 65 #[.agg (ints m2.e).toArray,.slice A 40 c] W (Keeps W m2.e x 40) from keep_any m2.e _ A c 40 W K2.out.e h XL.out (by omega))
   have HI80:=hid hi80
   clear hi80
   simp only[Exit.then]
   go_wp2_with (refine wpList_load_mid rfl 28 (.tmp 61) rfl _ _ rfl (ints m2.e) _ (M5.out.A.E K3.out) Tryd.underlying28 rfl HI80.out ?_)
   refine(KK.out w5 A5 c5 O5.out.reads).mono ?_
   rintro e w6 ⟨rfl,hB⟩
   have M6:=hid (M5.out.below hB)
   have O6:=hid (O5.out.below hB)
   clear hB M5 O5 KK
   have hKE:=hid (show keepA m2.e x 40=keepL m2.e x from rfl)
   rw[hKE.out]
   have M7:=hid (M6.out.ex K3.out _ KL.out)
   have O7:=hid (Own.setCs (g:=w.heap.size) (by omega) (ints (keepL m2.e x)) 16 _ O6.out)
   have SZ:=hid (show(Tryd.prog.info? 28).map (·.size)=some (agi (keepL m2.e x)).size from by rw[agi_size,KL.out];exact size80k)
   have TH:=hid (show w6.there w.heap.size 16 (agi (keepL m2.e x)).size from by rw[agi_size,KL.out];exact M6.out.A.thereE K3.out)
   have OKS:=hid (show(eraN m2).ok by rw[EN.out];exact(K3.out.ex KL.out))
   obtain⟨w7,hw7⟩: ∃w7,w7=w6.setCells w.heap.size 16 (ints (keepL m2.e x)):=⟨_,rfl⟩
   rw[<-hw7] at M7 O7
   have HW7:=hid hw7
   have T7:=hid (show Ms w w7 (eraN m2) by rw[EN.out];exact M7.out)
   clear hw7 M7 EN
   have hRow:=hid (MB.setRow T7.out.R (eraN m2))
   have FIN:=hid (below_setRow T7.out.bel (g:=w.heap.size+1) (by omega) (eraN m2).ag)
   have OF:=hid ((O7.out.setRow (g:=w.heap.size+1) (by omega) (eraN m2).ag).more (base':=w.heap.size) (by omega))
   go_wp2_with (first
    |(refine wpList_store_mid rfl 28 (.tmp 67) (.tmp 65) rfl w.heap.size 16 (agi (keepL m2.e x)) rfl rfl TH.out SZ.out (agi_one _) ?_;rw[show(agi (keepL m2.e x)).toList=ints (keepL m2.e x) from rfl,<-HW7.out])
    |(refine wpList_loadM rfl (.tmp 2) rfl _ (eraN m2) rfl T7.out.A OKS.out ?_)
    |(refine wpList_storeM rfl (.tmp 4) (.tmp 68) rfl _ zeroM (eraN m2) rfl rfl T7.out.R zeroM_ok OKS.out ?_))
   refine bodyPost_ret (v:=_) (hR _ _ _ (eraN m2) rfl hRow.out OKS.out) rfl ?_
   rw[FR.out,FY.out,HE.out]
   exact⟨A5,c5,by rw[XL.out];rfl,OF.out,FIN.out⟩
end Go.Proofs.YthoiikkjjaldnaaDoor
