/- Texts that the law rests on, laid together: PikW. -/
import Derived.Test.YthoiikkjjaldnaaDoorZ840156
set_option maxHeartbeats 4000000
namespace Go.Proofs.YthoiikkjjaldnaaDoor
set_option linter.unusedVariables false
set_option linter.unusedSimpArgs false
set_option maxRecDepth 100000
open Go.RowKit
theorem results_tmp4 {fn:Func} {t u v x:Tmp} (h:fn.results= #[.tmp t,.tmp u,.tmp v,.tmp x]) (tmps:Array Value) (P:Program) (w:World):
 (results fn tmps).run P w= .ok (.tuple #[tmps.getD t undef,tmps.getD u undef,tmps.getD v undef,tmps.getD x undef]) w:=by
 simp[results,h]
theorem size80q:(Tryd.prog.info? 28).map (·.size)=some 80:=by kernel_rfl
def FoldFn (K:Nat) (p:Value) (w:World) (ring:List Int):Prop:=
 ∀(W:World),Below w.heap.size w W->∀(A:Option Addr) (c:Nat) (v:List Int),Rs W W.heap.size A v->v.length=40->W64 v->
  Calls Tryd.prog K #[.slice A 40 c,p] W (fun e w'=> ∃A2 c2,e= .returned (.slice A2 (foL ring v).length c2)/\Own w' W.heap.size A2 c2 (foL ring v)/\Below W.heap.size W w')
theorem FoldFn.below {K:Nat} {p:Value} {w w':World} {ring:List Int} (h:FoldFn K p w ring) (hb:Below w.heap.size w w'):FoldFn K p w' ring:=
 fun W hB=>h W (hb.trans (hB.mono hb.size))
theorem func_nil (K:Nat) (p:Value) (w:World):(binOp .eql 43 (.func (.func K) #[] #[p]) .nilFunc).run Tryd.prog w= .ok (.bool false) w:=by kernel_rfl
theorem pitchPick_any (h ring t:List Int) (p:Value) (A:Option Addr) (c n:Nat) (w:World) (hh:h.length=80) (hr:Rs w w.heap.size A t) (hn:t.length=n) (hl:n<=17592186044416) (hf:FoldFn 51 p w ring):
 Calls Tryd.prog 53 #[.agg (agi h),.func (.func 51) #[] #[p],.slice A n c] w (PkAns ring h t w):=by
 have BA:=hid ((Below.refl w.heap.size w).alloc (Nat.le_refl _) (.cells (agi h) 28))
 have FB:=hid (fun(er:Int) (he:piErr ring h t=er) (h0:er≠0) w' (hB:Below w.heap.size w w')=>PkAns.bad (ring:=ring) (h:=h) (t:=t) he h0 hB)
 by_cases h40:n=40
 rotate_left
 ·have HE:=hid (show piErr ring h t=1 by unfold piErr;rw[if_neg (by omega)])
  have d0:((n:Int) !=40)=true:=by simp;omega
  have d1: ¬(n:Int)=40:=by omega
  clear h40 hn hr hf
  go_enter Tryd.func53,Tryd.ntmps53
  go_wp2
  ((try simp only[Exit.inBlock,Exit.then]);refine bodyPost_ret (results_tmp4 rfl _ _ _) rfl ?_)
  exact FB.out _ HE.out (by decide) _ BA.out
 subst h40
 have I0:=hid (IB.new w 28 h)
 have HT:=hid ((hr.below BA.out).more BA.out.size)
 have HH:=hid hh
 have HN:=hid hn
 have KF:=hid (hf.below BA.out)
 have hnf:=func_nil 51 p
 clear hr hf hh hn
 obtain⟨V,hV⟩: ∃V,V=w.alloc (.cells (agi h) 28):=⟨_,rfl⟩
 rw[<-hV] at I0 HT KF BA
 have HV:=hid hV
 clear hV
 cases gt:all16 t with
 |false=>
  have HE:=hid (show piErr ring h t=2 by unfold piErr;rw[if_pos HN.out,gt];rfl)
  have KR:=hid (pitchright_any A c 40 V.heap.size t V HT.out HN.out (by omega))
  rw[gt] at KR
  clear gt
  go_enter Tryd.func53,Tryd.ntmps53
  go_wp2_with fail
  rw[<-HV.out]
  refine KR.out.mono ?_
  rintro e w1 ⟨rfl,rfl⟩
  go_wp2
  ((try simp only[Exit.inBlock,Exit.then]);refine bodyPost_ret (results_tmp4 rfl _ _ _) rfl ?_)
  exact FB.out _ HE.out (by decide) _ BA.out
 |true=>
 have KR:=hid (pitchright_any A c 40 V.heap.size t V HT.out HN.out (by omega))
 rw[gt] at KR
 have KR2:=hid (pitchright_any (some ⟨w.heap.size,0,none⟩) 80 80 V.heap.size h V (rs_block1 I0.out) HH.out (by omega))
 cases gh:all16 h with
 |false=>
  have HE:=hid (show piErr ring h t=2 by unfold piErr;rw[if_pos HN.out,gt,gh];rfl)
  rw[gh] at KR2
  clear gt gh
  go_enter Tryd.func53,Tryd.ntmps53
  go_wp2_with fail
  rw[<-HV.out]
  refine KR.out.mono ?_
  rintro e w1 ⟨rfl,rfl⟩
  go_wp2_with fail
  refine KR2.out.mono ?_
  rintro e w1 ⟨rfl,rfl⟩
  go_wp2
  ((try simp only[Exit.inBlock,Exit.then]);refine bodyPost_ret (results_tmp4 rfl _ _ _) rfl ?_)
  exact FB.out _ HE.out (by decide) _ BA.out
 |true=>
 rw[gh] at KR2
 have HE:=hid (show piErr ring h t=if pkR ring then 0 else 1 by unfold piErr;rw[if_pos HN.out,gt,gh];rfl)
 have T16:=hid (all16_at gt)
 have H16:=hid (all16_at gh)
 clear gt gh
 go_enter Tryd.func53,Tryd.ntmps53
 go_wp2_with fail
 rw[<-HV.out]
 refine KR.out.mono ?_
 rintro e w1 ⟨rfl,rfl⟩
 go_wp2_with fail
 refine KR2.out.mono ?_
 rintro e w1 ⟨rfl,rfl⟩
 go_wp2
 clear KR KR2
 go_loopw [10,11,12,13] (fun bv cv ev iv wr=> ∃(n L:Nat),n<=60/\Hid (L=20+n)/\iv= .int .i64 L/\bv= .int .i64 (pkS ring h t n).1/\cv= .int .i64 (pkS ring h t n).2.1/\ev= .int .i64 (pkS ring h t n).2.2/\Hid (0<n->pkR ring=true)/\Hid (Below V.heap.size V wr)) (fun _ _ _ iv _=>80-(intOf iv).toNat)
 case atStart=>exact⟨0,20,by omega,hid rfl,rfl,rfl,rfl,rfl,hid (fun h=>by omega),hid (Below.refl _ _)⟩
 case round=>
  obtain⟨n,L,hn,HLL,rfl,rfl,rfl,rfl,HG,HB⟩:=hrel
  have hL:=HLL.out
  by_cases hlt:n<60
  ·have o5:(L:Int)<=79:=by omega
   have HP:=hid (pastL_len (h:=h) (lag:=(20:Int)+n) (pastB_yes (by omega) (by omega)))
   have HP16:=hid (pastL_in H16.out ((20:Int)+n))
   have KP:=hid (fun W=>show Calls Tryd.prog 56 #[.agg (agi h),.int .i64 (L:Nat)] W (fun e w'=> ∃A c,e= .returned (.tuple #[.slice A 40 c,.int .i64 0])/\Own w' W.heap.size A c (pastL h ((20:Int)+n))/\Below W.heap.size W w') from by
    have hLi:(L:Int)=(20:Int)+n:=by omega
    rw[hLi]
    refine(past_any h ((20:Int)+n) W HH.out).mono ?_
    rintro e w' ⟨A,c,h1,h2,h3⟩
    rw[pastB_yes (by omega) (by omega),HP.out] at h1
    exact⟨A,c,h1,h2,h3⟩)
   have VL:=hid (pk_fo (ring:=ring) HP.out HP16.out)
   have ST:=hid (show pkS ring h t (n+1)=if decide (0<pkC ring h t n)&&betterB (pkC ring h t n) (pkE ring h n) (pkS ring h t n).2.1 (pkS ring h t n).2.2 then(20+(n:Int),pkC ring h t n,pkE ring h n) else pkS ring h t n from rfl)
   unfold pkC pkE piV at ST
   have HL2:=hid (show L+1=20+(n+1) by have:=HLL.out;omega)
   have hLI:=hid (show(20:Int)+n=(L:Nat) by have:=HLL.out;omega)
   have P64:=hid (w64_of_in16 (all16_at HP16.out))
   have V16:=hid (foL_in ring (pastL h ((20:Int)+n)))
   have rS:=pkS_rng ring h T16.out n
   have bnn:=pkS_be ring h t n
   generalize pastL h ((20:Int)+n)=v at*
   have KF2:=hid (fun W (hB:Below V.heap.size V W) A c (hr:Rs W W.heap.size A v)=>KF.out W hB A c v hr HP.out P64.out)
   generalize foL ring v=f at*
   have KD1:=hid (fun W A1 c1 A2 c2 (h1:Rs W W.heap.size A1 t) (h2:Rs W W.heap.size A2 f) (hf:f.length=40)=>pitchDot_any A1 A2 c1 c2 40 40 t f W h1 h2 HN.out hf (Nat.le_refl _) (by omega) T16.out (all16_at V16.out))
   have KD2:=hid (fun W A2 c2 (h2:Rs W W.heap.size A2 f) (hf:f.length=40)=>pitchDot_any A2 A2 c2 c2 40 40 f f W h2 h2 hf hf (Nat.le_refl _) (by omega) (all16_at V16.out) (all16_at V16.out))
   have KRF:=hid (fun W A2 c2 n (h2:Rs W W.heap.size A2 f) (hf:f.length=n) (hn:n<=17592186044416)=>pitchright_any A2 c2 n W.heap.size f W h2 hf hn)
   have rC:=dotL_range T16.out (all16_at V16.out) 40
   have rE:=dotL_range (all16_at V16.out) (all16_at V16.out) 40
   have pos:=dot_pos (a:=t) (b:=f) (n:=40)
   obtain⟨q1,hq1⟩: ∃q1,q1=(pkS ring h t n).1:=⟨_,rfl⟩
   obtain⟨q2,hq2⟩: ∃q2,q2=(pkS ring h t n).2.1:=⟨_,rfl⟩
   obtain⟨q3,hq3⟩: ∃q3,q3=(pkS ring h t n).2.2:=⟨_,rfl⟩
   rw[<-hq2,<-hq3] at ST rS
   rw[<-hq3] at bnn
   rw[<-hq1,<-hq2,<-hq3]
   have HQ:=hid (show pkS ring h t n=(q1,q2,q3) by rw[hq1,hq2,hq3])
   have IW:=hid (Blk.below' I0.out HB.out)
   have TW:=hid ((HT.out.below HB.out).more HB.out.size)
   clear hq1 hq2 hq3 hL
   generalize dotL t f 40=C at*
   generalize dotL f f 40=E at*
   have KB:=hid (fun W=>better_any C E q2 q3 W (by omega) (by omega) (by omega) (by omega) (by omega) (by omega) (by omega) (by omega))
   have POS:=hid pos
   have BNN:=hid bnn
   clear pos bnn rS rC rE
   go_wp2_with (refine wpList_loadI rfl 28 (.tmp 3) rfl _ 28 h 80 _ rfl IW.out Tryd.underlying28 rfl size80q HH.out ?_)
   refine(KP.out wr).mono ?_
   rintro e w1 ⟨A1,c1,rfl,hO,hB⟩
   have B1:=hid (HB.out.trans (hB.mono HB.out.size))
   have O1:=hid hO.reads
   have TW1:=hid ((TW.out.below hB).more hB.size)
   clear hO hB KP IW
   go_wp2_with fail
   refine(KF2.out w1 B1.out A1 c1 O1.out).mono ?_
   rintro e w2 ⟨A2,c2,rfl,hO,hB⟩
   have B2:=hid (B1.out.trans (hB.mono B1.out.size))
   have O2:=hid hO.reads
   have TW2:=hid ((TW1.out.below hB).more hB.size)
   clear hO hB KF2 O1 TW1 B1 HB TW
   cases hR:pkR ring with
   |false=>
    have HE1:=hid (show piErr ring h t=1 by rw[HE.out,hR];rfl)
    have F0:=VL.out
    rw[hR] at F0
    simp only[if_false,Bool.false_eq_true] at F0
    rw[F0]
    clear F0 hR ST
    go_wp2
    ((try simp only[Exit.inBlock,Exit.then]);refine bodyPost_ret (results_tmp4 rfl _ _ _) rfl ?_)
    exact FB.out _ HE1.out (by decide) _ (BA.out.trans (B2.out.mono BA.out.size))
   |true=>
    have F40:=VL.out
    rw[hR] at F40
    simp only[if_true] at F40
    rw[F40]
    have KRF2:=hid (KRF.out w2 A2 c2 40 O2.out F40 (by omega))
    have KD1':=hid (KD1.out w2 A c A2 c2 TW2.out O2.out F40)
    have KD2':=hid (KD2.out w2 A2 c2 O2.out F40)
    have HG2:=hid (fun(_:0<n+1)=>hR)
    rw[V16.out] at KRF2
    clear hR F40 KRF KD1 KD2
    go_wp2_with fail
    refine KRF2.out.mono ?_
    rintro e w3 ⟨rfl,rfl⟩
    go_wp2_with fail
    refine KD1'.out.mono ?_
    rintro e w3 ⟨rfl,rfl⟩
    go_wp2_with fail
    refine KD2'.out.mono ?_
    rintro e w3 ⟨rfl,rfl⟩
    by_cases hC:C<=0
    ·have NS:=hid (show pkS ring h t (n+1)=(q1,q2,q3) by rw[ST.out,decide_eq_false (by omega)];exact HQ.out)
     clear ST
     go_wp2
     go_roundw
     case rel=>exact⟨n+1,L+1,by omega,HL2,by go_num,by rw[NS.out],by rw[NS.out],by rw[NS.out],HG2,B2⟩
     case measure=>simp[intOf]<;>omega
    ·have hE: ¬E<=0:=by have:=POS.out (by omega);omega
     by_cases h0:q3=0
     ·subst h0
      have NS:=hid (show pkS ring h t (n+1)=(20+(n:Int),C,E) by rw[ST.out,op_first (fun h=>POS.out h),decide_eq_true (by omega)];rfl)
      clear ST
      go_wp2
      go_roundw
      case rel=>exact⟨n+1,L+1,by omega,HL2,by go_num,by rw[NS.out,<-hLI.out],by rw[NS.out],by rw[NS.out],HG2,B2⟩
      case measure=>simp[intOf]<;>omega
     ·have e1:(q3==0)=false:=by simpa using h0
      obtain⟨b,hb⟩: ∃b,b=betterB C E q2 q3:=⟨_,rfl⟩
      rw[<-hb,decide_eq_true (by omega)] at ST
      rw[<-hb] at KB
      clear hb
      go_wp2_with fail
      refine(KB.out _).mono ?_
      rintro en w3 ⟨rfl,hB⟩
      have B3:=hid (B2.out.trans (hB.mono B2.out.size))
      clear hB
      cases b
      ·have NS:=hid (show pkS ring h t (n+1)=(q1,q2,q3) by rw[ST.out];exact HQ.out)
       go_wp2
       go_roundw
       case rel=>exact⟨n+1,L+1,by omega,HL2,by go_num,by rw[NS.out],by rw[NS.out],by rw[NS.out],HG2,B3⟩
       case measure=>simp[intOf]<;>omega
      ·have NS:=hid (show pkS ring h t (n+1)=(20+(n:Int),C,E) by rw[ST.out];rfl)
       go_wp2
       go_roundw
       case rel=>exact⟨n+1,L+1,by omega,HL2,by go_num,by rw[NS.out,<-hLI.out],by rw[NS.out],by rw[NS.out],HG2,B3⟩
       case measure=>simp[intOf]<;>omega
  ·obtain rfl:n=60:=by omega
   obtain rfl:L=80:=by omega
   have HE0:=hid (show piErr ring h t=0 by rw[HE.out,HG.out (by omega)];rfl)
   clear hL hlt
   go_wp2
   ((try simp only[Exit.inBlock,Exit.then]);refine bodyPost_ret (results_tmp4 rfl _ _ _) rfl ?_)
   exact⟨by unfold piA piB pkD;rw[HE0.out];rfl,BA.out.trans (HB.out.mono BA.out.size)⟩
end Go.Proofs.YthoiikkjjaldnaaDoor
