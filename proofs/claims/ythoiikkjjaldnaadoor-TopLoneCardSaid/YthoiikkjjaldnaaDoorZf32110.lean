/- Texts that the law rests on, laid together: DkW. -/
import Derived.Test.YthoiikkjjaldnaaDoorZd03041
import Derived.Test.YthoiikkjjaldnaaDoorZ2f4d1a
import Derived.Test.YthoiikkjjaldnaaDoorZ9e0fbb
import Derived.Test.YthoiikkjjaldnaaDoorZ5940b7
set_option maxHeartbeats 4000000
namespace Go.Proofs.YthoiikkjjaldnaaDoor
set_option linter.unusedVariables false
set_option linter.unusedSimpArgs false
set_option maxRecDepth 100000
open Go.RowKit
structure Cq where
 k:Int
 v:Int
 r:Bool
 A:Option Addr
 n:Nat
 c:Nat
 A2:Option Addr
 n2:Nat
 c2:Nat
def Cq.cs (q:Cq):Array Value:=callC q.k q.v q.r q.A q.n q.c q.A2 q.n2 q.c2
structure Dj (w W:World) (gK gM n:Nat) (D:DataW Unit) (g:Nat) (e:En) (m:Mm) (q:Cq):Prop where
 C:Blk W w.heap.size 56 q.cs
 R:Blk W (w.heap.size+1) 58 (ansC 0 0 none 0 0 none 0 0)
 T:Blk W (w.heap.size+2) 58 (ansC 0 q.v none 0 0 none 0 0)
 D:Dd W gK gM n D
 L:LB W g e m
 bel:Below w.heap.size w W
section
variable {w W W':World} {gK gM n g:Nat} {D:DataW Unit} {e:En} {m:Mm} {q:Cq}
theorem Dj.lt (h:Dj w W gK gM n D g e m q):w.heap.size+3<=W.heap.size:=Blk.lt h.T
theorem Dj.below (h:Dj w W gK gM n D g e m q) (hb:Below W.heap.size W W'):Dj w W' gK gM n D g e m q:=⟨Blk.below' h.C hb,Blk.below' h.R hb,Blk.below' h.T hb,h.D.below hb,Blk.below' h.L hb,h.bel.trans (hb.mono h.bel.size)⟩
theorem Dj.c0 (h:Dj w W gK gM n D g e m q):W.cell? ⟨w.heap.size,0,none⟩=some (.int .i64 q.k):=Blk.cell h.C 0
theorem Dj.c1 (h:Dj w W gK gM n D g e m q):W.cell? ⟨w.heap.size,1,none⟩=some (.int .i64 q.v):=Blk.cell h.C 1
theorem Dj.c2 (h:Dj w W gK gM n D g e m q):W.cell? ⟨w.heap.size,2,none⟩=some (.bool q.r):=Blk.cell h.C 2
theorem Dj.c3 (h:Dj w W gK gM n D g e m q):W.cell? ⟨w.heap.size,3,none⟩=some (.slice q.A q.n q.c):=Blk.cell h.C 3
theorem Dj.c4 (h:Dj w W gK gM n D g e m q):W.cell? ⟨w.heap.size,4,none⟩=some (.slice q.A2 q.n2 q.c2):=Blk.cell h.C 4
theorem Dj.start (w:World) (q:Cq) (hD:Dd w gK gM n D) (hL:LB w g e m):
 Dj w (((w.alloc (.cells #[.int .i64 q.k,.int .i64 q.v,.bool q.r,.slice q.A q.n q.c,.slice q.A2 q.n2 q.c2] 56)).alloc (.cells #[.int .i64 0,.int .i64 0,.slice none 0 0,.slice none 0 0] 58)).alloc (.cells #[.int .i64 0,.int .i64 q.v,.slice none 0 0,.slice none 0 0] 58)) gK gM n D g e m q:=by
 have h1:=Blk.new w 56 #[.int .i64 q.k,.int .i64 q.v,.bool q.r,.slice q.A q.n q.c,.slice q.A2 q.n2 q.c2]
 have h2:=Blk.new (w.alloc (.cells #[.int .i64 q.k,.int .i64 q.v,.bool q.r,.slice q.A q.n q.c,.slice q.A2 q.n2 q.c2] 56)) 58 #[.int .i64 0,.int .i64 0,.slice none 0 0,.slice none 0 0]
 have h3:=Blk.new ((w.alloc (.cells #[.int .i64 q.k,.int .i64 q.v,.bool q.r,.slice q.A q.n q.c,.slice q.A2 q.n2 q.c2] 56)).alloc (.cells #[.int .i64 0,.int .i64 0,.slice none 0 0,.slice none 0 0] 58)) 58 #[.int .i64 0,.int .i64 q.v,.slice none 0 0,.slice none 0 0]
 simp only[World.size_alloc] at h2 h3
 have hb:=(((Below.refl w.heap.size w).alloc (Nat.le_refl _) (.cells #[.int .i64 q.k,.int .i64 q.v,.bool q.r,.slice q.A q.n q.c,.slice q.A2 q.n2 q.c2] 56)).alloc (by simp) (.cells #[.int .i64 0,.int .i64 0,.slice none 0 0,.slice none 0 0] 58)).alloc (by simp;omega) (.cells #[.int .i64 0,.int .i64 q.v,.slice none 0 0,.slice none 0 0] 58)
 exact⟨Blk.alloc (Blk.alloc h1 _) _,Blk.alloc h2 _,h3,hD.below hb,Blk.below' hL hb,hb⟩
end
def Gr (w W:World) (g:Nat):Prop:=w.grownBy W (some g)
section
variable {w W W':World} {g b:Nat}
theorem Gr.of (h:Below w.heap.size w W):Gr w W g:=⟨h.os,h.tape,h.output,h.size,fun k hk _=>h.block k hk⟩
theorem Gr.below (h:Gr w W g) (hb:Below W.heap.size W W'):Gr w W' g:=⟨hb.os.trans h.os,hb.tape.trans h.tape,hb.output.trans h.output,Nat.le_trans h.size hb.size,fun k hk hn=>(hb.block k (Nat.lt_of_lt_of_le hk h.size)).trans (h.block k hk hn)⟩
theorem Gr.setC (h:Gr w W g) (hb:b=g\/w.heap.size<=b) (o:Nat) (v:Value):Gr w (W.setCell ⟨b,o,none⟩ v) g:=
 ⟨h.os,h.tape,h.output,Nat.le_trans h.size (by simp[World.setCell]),fun k hk hn=>(Below.heap_setCell _ _ _ k (by
   show k≠b
   rcases hb with rfl|hb
   ·exact fun e=>hn (by rw[e])
   ·omega)).trans (h.block k hk hn)⟩
theorem Gr.setCs (hb:b=g\/w.heap.size<=b): ∀(vs:List Value) (o:Nat) (W:World),Gr w W g->Gr w (W.setCells b o vs) g
 |[],_,_,h=>h
 |v::vs,o,W,h=>Gr.setCs hb vs (o+1) _ (h.setC hb o v)
theorem Gr.row (h:Gr w W g) (hb:w.heap.size<=b) (cs:Array Value):Gr w (W.setRow b cs) g:=
 ⟨h.os,h.tape,h.output,Nat.le_trans h.size (by simp[World.setRow]),fun k hk hn=>(setRow_other _ b k cs (by omega)).trans (h.block k hk hn)⟩
theorem LB.neK {gK gM n:Nat} {D:DataW Unit} {e:En} {m:Mm} (h:LB W g e m) (hD:Dd W gK gM n D):gK≠g:=fun x=>by
 subst x
 have h1:=hD.K
 unfold LB Blk at h
 unfold Blk at h1
 rw[h] at h1
 injection h1 with h1
 injection h1 with h2 h3
 exact absurd h3 (by decide)
theorem LB.neM {gK gM n:Nat} {D:DataW Unit} {e:En} {m:Mm} (h:LB W g e m) (hD:Dd W gK gM n D):gM≠g:=fun x=>by
 subst x
 obtain⟨es,clock,hb,_⟩:=hD.M
 unfold LB Blk at h
 rw[hb] at h
 cases h
theorem Dd.far {gK gM n:Nat} {D:DataW Unit} (h:Dd W gK gM n D) (h1:gK≠b) (h2:gM≠b) (vs:List Value) (o:Nat):Dd (W.setCells b o vs) gK gM n D:=⟨blk_sc h1 _ _ _ h.K,h.M.far h2 vs o⟩
theorem Dd.row {gK gM n:Nat} {D:DataW Unit} (h:Dd W gK gM n D) (h1:gK≠b) (h2:gM≠b) (cs:Array Value):Dd (W.setRow b cs) gK gM n D:=
 ⟨Blk.rowFar h.K h1,World.ownsMap.kept (row:=some b) h.M ⟨rfl,rfl,rfl,by simp[World.setRow],fun k _ hn=>setRow_other _ b k cs (by intro e;subst e;exact hn rfl)⟩ (by intro e;exact h2 (Option.some.inj e))⟩
end
theorem deskDo_era (gK gM n:Nat) (D:DataW Unit) (g:Nat) (e:En) (m:Mm) (q:Cq) (w:World) (hD:Dd w gK gM n D) (hL:LB w g e m) (ke:e.ok) (km:m.ok) (gm:goodM m=true) (hv: -9223372036854775808<=q.v/\q.v<=9223372036854775807)
 (hhas:Maps.has D (keyL q.v)=true) (hat:D.atKey (keyL q.v) .nil= .lit (.int .i64 (g:Nat))) (hk:q.k=4) (hgl:g<w.heap.size) (hgd:gK<w.heap.size/\gM<w.heap.size):
 Calls Tryd.prog 18 #[.pointer (some ⟨gK,0,none⟩),.agg #[.int .i64 q.k,.int .i64 q.v,.bool q.r,.slice q.A q.n q.c,.slice q.A2 q.n2 q.c2]] w (fun x w'=> ∃A4 c4,x= .returned (.agg (ansC 0 q.v none 0 0 A4 80 c4))/\Own w' w.heap.size A4 c4 (coY m)/\Dd w' gK gM n D/\LB w' g e (coM m)/\w.grownBy w' (some g)):=by
 have hR:=results_any1 (fn:=Tryd.f18) (p:=4) (ty:=58) rfl
 have S0:=hid (Dj.start w q hD hL)
 obtain⟨V0,hV0⟩: ∃V0,V0=(((w.alloc (.cells #[.int .i64 q.k,.int .i64 q.v,.bool q.r,.slice q.A q.n q.c,.slice q.A2 q.n2 q.c2] 56)).alloc (.cells #[.int .i64 0,.int .i64 0,.slice none 0 0,.slice none 0 0] 58)).alloc (.cells #[.int .i64 0,.int .i64 q.v,.slice none 0 0,.slice none 0 0] 58)):=⟨_,rfl⟩
 rw[<-hV0] at S0
 have HV0:=hV0.symm
 have KE:=hid ke
 have KM:=hid km
 have hrun:=(S0.out.D.below ((Below.refl _ _).drew)).M.hit hv hhas hat
 have k1:=S0.out.c0
 have k2:=S0.out.c1
 have k3:V0.cell? ⟨gK,0,none⟩=some (.map (some gM)):=Blk.cell S0.out.D.K 0
 clear hV0 hD hL ke km
 rw[hk] at HV0 k1|-
 have HVx:=hid HV0
 clear HV0
 go_enter Tryd.func18,Tryd.ntmps18
 go_upto_region 8 with fail
 rw[HVx.out]
 go_region
 have S1:=hid (S0.out.below ((Below.refl _ _).drew))
 obtain⟨V1,hV1⟩: ∃V1,V1=World.drew V0:=⟨_,rfl⟩
 rw[<-hV1] at S1|-
 clear k1 k2 k3 hrun hV1 S0
 have k1:=S1.out.c0
 rw[hk] at k1
 have HIM:=hid (show(Tryd.prog.info? 30).map (·.size)=some m.cs.length from by rw[sizeM,m.len KM.out])
 have KEr:=hid (fun W=>show Calls Tryd.prog 16 #[.agg m.cs.toArray] W (fun e w'=> ∃A5 c5,e= .returned (.tuple #[.agg (coM m).ag,.slice A5 80 c5,.int .i64 0])/\Own w' W.heap.size A5 c5 (coY m)/\Below W.heap.size W w') from by
  have h1:=erase_any m KM.out W
  unfold NewM at h1
  rw[(coM_good gm).2,gm] at h1
  exact h1)
 have K2:=hid (coM_ok KM.out)
 obtain⟨m2,hm2⟩: ∃m2,m2=coM m:=⟨_,rfl⟩
 rw[<-hm2] at KEr K2
 obtain⟨ys,hys⟩: ∃ys,ys=coY m:=⟨_,rfl⟩
 rw[<-hys] at KEr
 have HM2:=hid hm2
 have HYS:=hid hys
 clear hm2 hys
 go_wp2_with (refine wpList_load_mid rfl 30 (.tmp 115) rfl g 226 rfl m.cs _ (LB.M S1.out.L KE.out) Tryd.underlying30 rfl HIM.out ?_)
 with_reducible refine(KEr.out V1).mono ?_
 rintro x w2 ⟨A5,c5,rfl,hO,hB⟩
 have S2:=hid (S1.out.below hB)
 have O2:=hid hO
 have LT1:=hid S1.out.lt
 clear hO hB S1 KEr k1
 have NK:=hid (LB.neK S2.out.L S2.out.D)
 have NM:=hid (LB.neM S2.out.L S2.out.D)
 have GG:=hid (show g<w.heap.size from hgl)
 have L3:=hid (LB.setM S2.out.L KE.out KM.out K2.out)
 have D3:=hid (S2.out.D.far NK.out NM.out m2.cs 226)
 have G3:=hid (Gr.setCs (g:=g) (.inl rfl) m2.cs 226 _ (Gr.of S2.out.bel))
 have T3:=hid (show Blk (w2.setCells g 226 m2.cs) (w.heap.size+1+1) 58 (ansC 0 q.v none 0 0 none 0 0) from blk_sc (by have:=GG.out;omega) _ _ _ S2.out.T)
 have R3:=hid (show Blk (w2.setCells g 226 m2.cs) (w.heap.size+1) 58 (ansC 0 0 none 0 0 none 0 0) from blk_sc (by have:=GG.out;omega) _ _ _ S2.out.R)
 have C3:=hid (show Blk (w2.setCells g 226 m2.cs) w.heap.size 56 q.cs from blk_sc (by have:=GG.out;omega) _ _ _ S2.out.C)
 have O3:=hid (Own.setCs (g:=g) (by have:=GG.out;have:=LT1.out;omega) m2.cs 226 _ O2.out)
 obtain⟨V3,hV3⟩: ∃V3,V3=w2.setCells g 226 m2.cs:=⟨_,rfl⟩
 rw[<-hV3] at L3 D3 G3 T3 R3 C3 O3
 have HV3:=hid hV3
 clear hV3
 have t0:=Blk.cell T3.out 0
 have t3:=Blk.cell T3.out 3
 have f0:=Blk.frozen T3.out 0
 have f3:=Blk.frozen T3.out 3
 have k1:V3.cell? ⟨w.heap.size,0,none⟩=some (.int .i64 4):=by have h:=Blk.cell C3.out 0;rw[<-hk];exact h
 have T5:=hid (show Blk ((V3.setCell ⟨w.heap.size+1+1,3,none⟩ (.slice A5 80 c5)).setCell ⟨w.heap.size+1+1,0,none⟩ (.int .i64 0)) (w.heap.size+1+1) 58 (ansC 0 q.v none 0 0 A5 80 c5) from Blk.set_ (Blk.set_ T3.out 3 (.slice A5 80 c5)) 0 (.int .i64 0))
 have R5:=hid (Blk.far (Blk.far R3.out (p:=⟨w.heap.size+1+1,3,none⟩) (by show w.heap.size+1≠w.heap.size+1+1;omega) (.slice A5 80 c5)) (p:=⟨w.heap.size+1+1,0,none⟩) (by show w.heap.size+1≠w.heap.size+1+1;omega) (.int .i64 0))
 have L5:=hid (show LB _ g e m2 from Blk.far (Blk.far L3.out (p:=⟨w.heap.size+1+1,3,none⟩) (by have:=GG.out;show g≠w.heap.size+1+1;omega) (.slice A5 80 c5)) (p:=⟨w.heap.size+1+1,0,none⟩) (by have:=GG.out;show g≠w.heap.size+1+1;omega) (.int .i64 0))
 have HKL:=hid (show gK<w.heap.size/\gM<w.heap.size from hgd)
 have D4:=D3.out.far (b:=w.heap.size+1+1) (by have:=HKL.out;omega) (by have:=HKL.out;omega) [.slice A5 80 c5] 3
 have D5:=hid (D4.far (b:=w.heap.size+1+1) (by have:=HKL.out;omega) (by have:=HKL.out;omega) [.int .i64 0] 0)
 have G5:=hid ((G3.out.setC (b:=w.heap.size+1+1) (.inr (by omega)) 3 (.slice A5 80 c5)).setC (b:=w.heap.size+1+1) (.inr (by omega)) 0 (.int .i64 0))
 have O5:=hid (Own.setC (g:=w.heap.size+1+1) (Own.setC (g:=w.heap.size+1+1) O3.out (by have:=LT1.out;omega) 3 (.slice A5 80 c5)) (by have:=LT1.out;omega) 0 (.int .i64 0))
 obtain⟨V5,hV5⟩: ∃V5,V5=(V3.setCell ⟨w.heap.size+1+1,3,none⟩ (.slice A5 80 c5)).setCell ⟨w.heap.size+1+1,0,none⟩ (.int .i64 0):=⟨_,rfl⟩
 have D5:=hid (show Dd ((V3.setCell ⟨w.heap.size+1+1,3,none⟩ (.slice A5 80 c5)).setCell ⟨w.heap.size+1+1,0,none⟩ (.int .i64 0)) gK gM n D from D5.out)
 rw[<-hV5] at T5 R5 L5 D5 G5 O5
 have HV5:=hid hV5.symm
 clear hV5 D4
 go_wp2_with (first
  |(rw[HV5.out];clear HV5 t0 t3 f0 f3 k1)
  |(refine wpList_loadC rfl 58 (.tmp 5) rfl _ 58 _ _ rfl T5.out Tryd.underlying58 rfl sizeAns ?_)
  |(refine wpList_storeC rfl 58 (.tmp 4) (.tmp 133) rfl _ 58 _ (ansC 0 q.v none 0 0 A5 80 c5) rfl rfl R5.out sizeAns rfl (one_ans _ _ _ _ _ _ _ _) ?_)
  |(refine wpList_store_mid rfl 30 (.tmp 122) (.tmp 118) rfl g 226 m2.ag rfl rfl (by rw[m2.size K2.out];exact LB.there S2.out.L KE.out KM.out 226 102 (by omega)) (by rw[m2.size K2.out];exact sizeM) (Mm.one _) ?_;rw[show m2.ag.toList=m2.cs from rfl,<-HV3.out];clear HV3))
 refine bodyPost_ret (v:=_) (hR _ _ _ _ _ rfl (Blk.setRow_ R5.out _) Tryd.underlying58 rfl sizeAns) rfl ?_
 have e1:=HM2.out
 have e2:=HYS.out
 subst e1
 subst e2
 exact⟨A5,c5,rfl,(O5.out.setRow (g:=w.heap.size+1) (by have:=LT1.out;omega) _).more (base':=w.heap.size) (by have:=LT1.out;omega),D5.out.row (by have:=HKL.out;omega) (by have:=HKL.out;omega) _,Blk.rowFar L5.out (by have:=GG.out;omega),G5.out.row (by omega) _⟩
end Go.Proofs.YthoiikkjjaldnaaDoor
