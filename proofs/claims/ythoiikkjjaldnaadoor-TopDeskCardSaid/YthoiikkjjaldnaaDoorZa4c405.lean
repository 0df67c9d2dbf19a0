/- Texts that the law rests on, laid together: TopI. -/
import Derived.Test.YthoiikkjjaldnaaDoorZ7efb1b
import Derived.Test.YthoiikkjjaldnaaDoorZ93712e
import Derived.Test.YthoiikkjjaldnaaDoorZbfb2ae
import Derived.Test.YthoiikkjjaldnaaDoorZaa66a1
set_option maxHeartbeats 4000000
namespace Go.Proofs.YthoiikkjjaldnaaDoor
set_option linter.unusedVariables false
set_option linter.unusedSimpArgs false
set_option maxRecDepth 100000
open Go.RowKit
theorem blk_ne {W:World} {a b:Nat} {t u:TypeId} {c d:Array Value} (h1:Blk W a t c) (h2:Blk W b u d) (ht:t≠u):a≠b:=fun x=>by
 subst x
 unfold Blk at h1 h2
 rw[h1] at h2
 injection h2 with h2
 injection h2 with h3 h4
 exact ht h4
theorem keyL_is (v:Int):WideAt.IsKeyLit (keyL v):=by simp[keyL,WideAt.IsKeyLit]
def D1 (v:Int) (g:Nat):DataW Unit:=(DataW.map []).put (keyL v) (.lit (.int .i64 (g:Nat)))
theorem D1_has (v:Int) (g:Nat):Maps.has (D1 v g) (keyL v)=true:=Maps.has_put_same Maps.isMap_empty (keyL_is v) _
theorem D1_at (v:Int) (g:Nat):(D1 v g).atKey (keyL v) .nil= .lit (.int .i64 (g:Nat)):=Maps.atKey_put_same Maps.isMap_empty (keyL_is v) _ _
theorem D1_del (v:Int) (g:Nat):Maps.size ((D1 v g).del (keyL v))=0:=by
 have h0:Maps.Tidy (DataW.map []:DataW Unit):=Maps.tidy_empty
 have h1:Maps.Tidy (D1 v g):=h0.put (keyL_is v) _
 have h2:=Maps.size_del (k:=keyL v) h1
 have h3:Maps.size (D1 v g)=1:=by
  unfold D1
  rw[Maps.size_put h0]
  rfl
 rw[D1_has,if_pos rfl,h3] at h2
 omega
structure Ti (w W:World) (gE gD gK gM g:Nat) (v:Int) (s:En) (m:Mm):Prop where
 T:Tp w W gE gD s m
 D:Dd W gK gM 1 (D1 v g)
 L:LB W g s m
section
variable {w W W':World} {gE gD gK gM g b:Nat} {v:Int} {s s':En} {m m':Mm}
theorem Tp.grown (h:Tp w W gE gD s m) (hG:W.grownBy W' (some b)) (hb:w.heap.size<=b) (h1:gE≠b) (h2:gD≠b):Tp w W' gE gD s m:=
 ⟨(hG.block gE (Blk.lt h.E) (fun x=>h1 (Option.some.inj x))).trans h.E,(hG.block gD (Blk.lt h.D) (fun x=>h2 (Option.some.inj x))).trans h.D,
   ⟨hG.os.trans h.bel.os,hG.tape.trans h.bel.tape,hG.output.trans h.bel.output,Nat.le_trans h.bel.size hG.size,fun i hi=>(hG.block i (Nat.lt_of_lt_of_le hi h.bel.size) (fun x=>by have:=Option.some.inj x;omega)).trans (h.bel.block i hi)⟩,h.l0,h.l1⟩
theorem Ti.below (h:Ti w W gE gD gK gM g v s m) (hb:Below W.heap.size W W'):Ti w W' gE gD gK gM g v s m:=⟨h.T.below hb,h.D.below hb,Blk.below' h.L hb⟩
end
structure Sk (w W:World) (gE gD gK gM g:Nat) (v:Int) (gT:Nat) (s:En) (m:Mm) (t:Tk):Prop where
 T:Ti w W gE gD gK gM g v s m
 K:Blk W gT 38 t.cs.toArray
 l:gD<gT
 r:Rs W w.heap.size t.A t.xs
section
variable {w W W':World} {gE gD gK gM g gT b:Nat} {v:Int} {s s':En} {m m':Mm} {t:Tk}
theorem Sk.lt (h:Sk w W gE gD gK gM g v gT s m t):gT<W.heap.size:=Blk.lt h.K
theorem Sk.below (h:Sk w W gE gD gK gM g v gT s m t) (hb:Below W.heap.size W W'):Sk w W' gE gD gK gM g v gT s m t:=⟨h.T.below hb,Blk.below' h.K hb,h.l,h.r.below (hb.mono h.T.T.bel.size)⟩
theorem Sk.far (h:Sk w W gE gD gK gM g v gT s m t) (hlow:gK<gT/\gM<gT/\g<gT) (hg:gT+1<=b) (vs:List Value) (o:Nat):Sk w (W.setCells b o vs) gE gD gK gM g v gT s m t:=by
 have h1:=h.T.T.l0
 have h2:=h.T.T.l1
 have h3:=h.l
 exact⟨⟨⟨blk_sc (by omega) _ _ _ h.T.T.E,blk_sc (by omega) _ _ _ h.T.T.D,below_sc (by omega) _ _ _ h.T.T.bel,h.T.T.l0,h.T.T.l1⟩,h.T.D.far (by omega) (by omega) _ _,blk_sc (by omega) _ _ _ h.T.L⟩,blk_sc (by omega) _ _ _ h.K,h.l,h.r.below (below_sc (by omega) _ _ _ (Below.refl _ _))⟩
end
structure Sn (w W:World) (gE gD gK gM g:Nat) (v:Int) (gT:Nat) (s:En) (m:Mm) (t:Tk) (gx:Nat) (s2:En) (A3:Option Addr) (c3:Nat) (bs:List Int) (A4:Option Addr) (c4:Nat) (ys:List Int):Prop where
 K:Sk w W gE gD gK gM g v gT s m t
 X:EB W gx s2
 P:OwnB W (gT+1) A3 c3 bs
 R:Own W (gT+1) A4 c4 ys
structure So (w W:World) (gE gD gK gM g:Nat) (v:Int) (gT:Nat) (s:En) (m:Mm) (t:Tk) (gx:Nat) (s2:En) (A3:Option Addr) (c3:Nat) (bs:List Int) (A4:Option Addr) (c4:Nat) (ys:List Int) (A5:Option Addr) (c5:Nat) (A6:Option Addr) (c6:Nat):Prop where
 T:Tp w W gE gD s m
 D:Dd W gK gM 1 (D1 v g)
 L:LB W g s2 m
 K:Blk W gT 38 t.cs.toArray
 r:Rs W w.heap.size t.A t.xs
 X:EB W gx s2
 P:OwnB W (gT+1) A3 c3 bs
 R:Own W (gT+1) A4 c4 ys
 Q:OwnB W (gT+1) A5 c5 bs
 Y:Own W (gT+1) A6 c6 ys
structure Sr (w W:World) (gE gD gK gM g:Nat) (v:Int) (gT:Nat) (s s2:En) (m m2:Mm) (t:Tk) (A3:Option Addr) (c3:Nat) (bs:List Int):Prop where
 T:Tp w W gE gD s m
 D:Dd W gK gM 1 (D1 v g)
 L:LB W g s2 m2
 K:Blk W gT 38 t.cs.toArray
 P:OwnB W (gT+1) A3 c3 bs
section
variable {w W W':World} {gE gD gK gM g gT gx:Nat} {v:Int} {s s2 s3:En} {m m2 m3:Mm} {t:Tk} {A3:Option Addr} {c3:Nat} {bs:List Int}
theorem Sr.below (h:Sr w W gE gD gK gM g v gT s s2 m m2 t A3 c3 bs) (hb:Below W.heap.size W W'):Sr w W' gE gD gK gM g v gT s s2 m m2 t A3 c3 bs:=⟨h.T.below hb,h.D.below hb,Blk.below' h.L hb,Blk.below' h.K hb,h.P.below hb⟩
theorem Sr.setE (h:Sr w W gE gD gK gM g v gT s s2 m m2 t A3 c3 bs) (hK:gK<gE/\gM<gE) (hl:gD<gT):Sr w (W.setRow gE s3.ag) gE gD gK gM g v gT s3 s2 m m2 t A3 c3 bs:=by
 have h1:=h.T.l1
 exact⟨h.T.setE,h.D.row (by omega) (by omega) _,Blk.rowFar h.L (fun x=>blk_ne h.T.E h.L (by decide) x.symm),Blk.rowFar h.K (by omega),ownB_setRow h.P (by omega) _⟩
theorem Sr.setD (h:Sr w W gE gD gK gM g v gT s s2 m m2 t A3 c3 bs) (hK:gK<gE/\gM<gE) (hl:gD<gT):Sr w (W.setRow gD m3.ag) gE gD gK gM g v gT s s2 m3 m2 t A3 c3 bs:=by
 have h1:=h.T.l1
 exact⟨h.T.setD,h.D.row (by omega) (by omega) _,Blk.rowFar h.L (fun x=>blk_ne h.T.D h.L (by decide) x.symm),Blk.rowFar h.K (by omega),ownB_setRow h.P (by omega) _⟩
theorem Sr.of (h:Sr w W gE gD gK gM g v gT s s2 m m2 t A3 c3 bs) (hG:W.grownBy W' (some g)) (hw:w.heap.size<=g) (hg:g<gT) (hD:Dd W' gK gM 1 (D1 v g)) (hL:LB W' g s3 m3):Sr w W' gE gD gK gM g v gT s s3 m m3 t A3 c3 bs:=
 ⟨h.T.grown hG hw (blk_ne h.T.E h.L (by decide)) (blk_ne h.T.D h.L (by decide)),hD,hL,(hG.block gT (Blk.lt h.K) (fun x=>by have:=Option.some.inj x;omega)).trans h.K,ownB_kept h.P hG (fun a ha x=>by have:=(h.P.lt a ha).1;have:=Option.some.inj x;omega)⟩
end
section
variable {w W W':World} {gE gD gK gM g gT gx:Nat} {v:Int} {s s2:En} {m:Mm} {t:Tk} {A3 A4 A5 A6:Option Addr} {c3 c4 c5 c6:Nat} {bs ys:List Int}
theorem Sn.below (h:Sn w W gE gD gK gM g v gT s m t gx s2 A3 c3 bs A4 c4 ys) (hb:Below W.heap.size W W'):Sn w W' gE gD gK gM g v gT s m t gx s2 A3 c3 bs A4 c4 ys:=⟨h.K.below hb,Blk.below' h.X hb,h.P.below hb,h.R.below hb⟩
theorem So.below (h:So w W gE gD gK gM g v gT s m t gx s2 A3 c3 bs A4 c4 ys A5 c5 A6 c6) (hb:Below W.heap.size W W'):So w W' gE gD gK gM g v gT s m t gx s2 A3 c3 bs A4 c4 ys A5 c5 A6 c6:=
 ⟨h.T.below hb,h.D.below hb,Blk.below' h.L hb,Blk.below' h.K hb,h.r.below (hb.mono h.T.bel.size),Blk.below' h.X hb,h.P.below hb,h.R.below hb,h.Q.below hb,h.Y.below hb⟩
theorem So.of (h:Sn w W gE gD gK gM g v gT s m t gx s2 A3 c3 bs A4 c4 ys) (hG:W.grownBy W' (some g)) (hw:w.heap.size<=g) (hg:g<gT) (hD:Dd W' gK gM 1 (D1 v g)) (hL:LB W' g s2 m) (hQ:OwnB W' W.heap.size A5 c5 bs) (hY:Own W' W.heap.size A6 c6 ys):
 So w W' gE gD gK gM g v gT s m t gx s2 A3 c3 bs A4 c4 ys A5 c5 A6 c6:=by
 have hl:=h.K.lt
 have nE:gE≠g:=blk_ne h.K.T.T.E h.K.T.L (by decide)
 have nD:gD≠g:=blk_ne h.K.T.T.D h.K.T.L (by decide)
 have nX:gx≠g:=blk_ne h.X h.K.T.L (by decide)
 have hT:=h.K.T.T.grown hG hw nE nD
 exact⟨hT,hD,hL,(hG.block gT hl (fun x=>by have:=Option.some.inj x;omega)).trans h.K.K,h.K.r.below ⟨hG.os,hG.tape,hG.output,hG.size,fun i hi=>hG.block i (Nat.lt_of_lt_of_le hi h.K.T.T.bel.size) (fun x=>by have:=Option.some.inj x;omega)⟩,
  (hG.block gx (Blk.lt h.X) (fun x=>nX (Option.some.inj x))).trans h.X,ownB_kept h.P hG (fun a ha x=>by have:=(h.P.lt a ha).1;have:=Option.some.inj x;omega),h.R.kept hG (fun a ha x=>by have:=(h.R.lt a ha).1;have:=Option.some.inj x;omega),hQ.more (by omega),hY.more (by omega)⟩
theorem grown_sc (b:Nat): ∀(vs:List Value) (o:Nat) (W:World),W.grownBy (W.setCells b o vs) (some b)
 |[],_,_=>⟨rfl,rfl,rfl,Nat.le_refl _,fun _ _ _=>rfl⟩
 |v::vs,o,W=>by
  have h:=grown_sc b vs (o+1) (W.setCell ⟨b,o,none⟩ v)
  exact⟨h.os,h.tape,h.output,Nat.le_trans (by simp[World.setCell]) h.size,fun i hi hn=>(h.block i (by simpa[World.setCell] using hi) hn).trans (Below.heap_setCell _ _ _ i (by intro e;exact hn (by rw[e])))⟩
theorem ansSet {W:World} {b:Nat} {c0:Array Value} (h:Blk W b 58 c0) (cs:Array Value) (hs:cs.size=c0.size):Blk (W.setCells b 0 cs.toList) b 58 cs:=by
 have h0:Blk W b 58 ([]++(c0.toList++[])).toArray:=by simpa using h
 have h1:=blk_setCells cs.toList c0.toList [] [] W h0 (by simpa using hs)
 simpa using h1
theorem ansThere {W:World} {g:Nat} {ty:TypeId} {c0 cs:Array Value} (h:Blk W g ty c0) (hs:cs.size=c0.size):W.there g 0 cs.size:=by
 rw[hs]
 exact Blk.there h
theorem So.far {B b:Nat} (h:So w W gE gD gK gM g v gT s m t gx s2 A3 c3 bs A4 c4 ys A5 c5 A6 c6) (low:gK<gT/\gM<gT/\g<gT) (hl:gD<gT) (hA:B<=b) (nb:gT<B/\gx<B/\(∀a,A3=some a->a.block<B)/\(∀a,A4=some a->a.block<B)) (nq:(∀a,A5=some a->a.block≠b)/\(∀a,A6=some a->a.block≠b)) (vs:List Value) (o:Nat):
 So w (W.setCells b o vs) gE gD gK gM g v gT s m t gx s2 A3 c3 bs A4 c4 ys A5 c5 A6 c6:=by
 have h0:=h.T.l0
 have h1:=h.T.l1
 have hg:=grown_sc b vs o W
 exact⟨⟨blk_sc (by omega) _ _ _ h.T.E,blk_sc (by omega) _ _ _ h.T.D,below_sc (by omega) _ _ _ h.T.bel,h0,h1⟩,h.D.far (by omega) (by omega) _ _,blk_sc (by omega) _ _ _ h.L,blk_sc (by omega) _ _ _ h.K,h.r.below (below_sc (by omega) _ _ _ (Below.refl _ _)),blk_sc (by omega) _ _ _ h.X,
  ownB_kept h.P hg (fun a ha x=>by have:=nb.2.2.1 a ha;have:=Option.some.inj x;omega),h.R.kept hg (fun a ha x=>by have:=nb.2.2.2 a ha;have:=Option.some.inj x;omega),ownB_kept h.Q hg (fun a ha x=>nq.1 a ha (Option.some.inj x)),h.Y.kept hg (fun a ha x=>nq.2 a ha (Option.some.inj x))⟩
end
theorem walkTopDesk (w:World) (T1:TabA w 2 rootsL) (T2:TabA w 0 gainsL) (T3:TabA w 1 widthL) (A:Option Addr) (n c:Nat) (hc:n<=c) (hc2:c<=9223372036854775807) (hr:RT w w.heap.size A n) (vo:Int) (hvo: -9223372036854775808<=vo/\vo<=9223372036854775807):
 Calls Tryd.prog 6 #[.slice A n c,.int .i64 vo] w (fun e w'=>e= .returned (.bool true)/\Below w.heap.size w w'):=by
 have KB:=hid (fun W=>begin_any W)
 have KF:=hid (fun W=>fresh_any W)
 have KN:=hid (fun W=>deskNew_any W)
 have KT:=hid (fun W=>talks_any A c n W hc)
 have HR:=hid (hr.less (Nat.min_le_left n 12))
 have TT:=hid (⟨T1,T2,T3⟩:TabA w 2 rootsL/\TabA w 0 gainsL/\TabA w 1 widthL)
 have M12:min n 12<=12:=Nat.min_le_right _ _
 have KV:=hid (fun W=>spot_any vo 2147483648 W (by omega) (by omega))
 have v0:=Int.emod_nonneg vo (show(2147483648:Int)≠0 by omega)
 have v1:=Int.emod_lt_of_pos vo (show(0:Int)<2147483648 by omega)
 generalize vo%2147483648=v at*
 generalize min n 12=N at*
 clear hr T1 T2 T3 hc hc2 hvo
 go_enter Tryd.func6,Tryd.ntmps6
 go_wp2_with (go_at_call 21;(with_reducible refine(KV.out _).mono ?_);rintro e w' ⟨rfl,rfl⟩)
 refine(KN.out _).mono ?_
 rintro e w1 ⟨gK,gM,rfl,hgM,hgK,hDD,hB1⟩
 go_wp2_with fail
 refine(KB.out _).mono ?_
 rintro e w2 ⟨rfl,hB2⟩
 go_wp2_with fail
 refine(KF.out _).mono ?_
 rintro e w3 ⟨rfl,hB3⟩
 have D3:=hid ((hDD.below hB2).below hB3)
 have B3:=hid ((hB1.trans (hB2.mono hB1.size)).trans (hB3.mono (hB1.trans (hB2.mono hB1.size)).size))
 have HG:=hid (show w.heap.size<=gM/\gM<gK from⟨hgM,hgK⟩)
 clear hDD hB1 hB2 hB3 KB KF KN KV hgM hgK
 have Z0:=newzeroE w3
 have Z1:=newzero (w3.alloc (.cells Tryd.zeroCells32 32))
 simp only[World.size_alloc] at Z1
 have T3:=hid (show Tp w ((w3.alloc (.cells Tryd.zeroCells32 32)).alloc (.cells Tryd.zeroCells30 30)) w3.heap.size (w3.heap.size+1) zeroEn zeroM from
  ⟨Blk.alloc Z0 _,Z1,(B3.out.alloc B3.out.size _).alloc (by have:=B3.out.size;simp;omega) _,B3.out.size,by omega⟩)
 have BB:=((Below.refl w3.heap.size w3).alloc (Nat.le_refl _) (.cells Tryd.zeroCells32 32)).alloc (by simp) (.cells Tryd.zeroCells30 30)
 have D4:=D3.out.below BB
 have GL:=hid (show gK<w3.heap.size from Blk.lt D3.out.K)
 have T4:=hid (T3.out.setE (s':=enB))
 have T5:=hid (T4.out.setD (m':=freshM))
 obtain⟨V3,hV3⟩: ∃V3,V3=((w3.alloc (.cells Tryd.zeroCells32 32)).alloc (.cells Tryd.zeroCells30 30)):=⟨_,rfl⟩
 rw[<-hV3] at T3 T4 T5 D4
 have D5:=hid ((D4.row (b:=w3.heap.size) (by have:=GL.out;omega) (by have:=GL.out;have:=HG.out;omega) enB.ag).row (b:=w3.heap.size+1) (by have:=GL.out;omega) (by have:=GL.out;have:=HG.out;omega) freshM.ag)
 obtain⟨V5,hV5⟩: ∃V5,V5=(V3.setRow w3.heap.size enB.ag).setRow (w3.heap.size+1) freshM.ag:=⟨_,rfl⟩
 rw[<-hV5] at T5 D5
 have HV3:=hid hV3.symm
 have HV5:=hid hV5.symm
 clear hV3 hV5 Z0 Z1 D4 BB D3
 have hfld: ∀(w:World),(Instr.field 58 (.agg (ansC 0 v none 0 0 none 0 0)) 0).run Tryd.prog w= .ok (.int .i64 0) w:=fun _=>by kernel_rfl
 have KO:=hid (deskDo_open gK gM 0 (.map []) ⟨1,v,false,none,0,0,none,0,0⟩ V5 D5.out (by show-9223372036854775808<=v/\v<=9223372036854775807;omega) rfl rfl ⟨by have:=T5.out.l1;have:=Blk.lt D5.out.K;exact this,Dd.lt D5.out⟩ (by
  show dkOp (.map []) v false=0
  unfold dkOp
  rw[if_neg (by omega),if_neg (by simp),if_neg (by decide)]) (by unfold maxLen;omega))
 go_wp2_with (first
  |(rw[HV3.out];clear HV3)
  |(refine wpList_storeE rfl (.tmp 6) (.tmp 24) rfl _ zeroEn enB rfl rfl T3.out.E zeroEn_ok enB_fit.k ?_)
  |(refine wpList_storeM rfl (.tmp 7) (.tmp 25) rfl _ zeroM freshM rfl rfl T4.out.D zeroM_ok freshM_ok ?_;rw[HV5.out];clear HV5))
 refine KO.out.mono ?_
 rintro x w6 ⟨g,rfl,hgl,hDD,hLL,hGG⟩
 have I6:=hid (show Ti w w6 w3.heap.size (w3.heap.size+1) gK gM g v enB freshM from⟨T5.out.grown hGG HG.out.1 (by have:=GL.out;have:=HG.out;omega) (by have:=GL.out;have:=HG.out;omega),hDD,hLL⟩)
 have HGW:=hid (show w.heap.size<=g from Nat.le_trans T5.out.bel.size hgl)
 clear hgl hDD hLL hGG KO T3 T4 T5 D5
 obtain⟨gE,hgE⟩: ∃gE,gE=w3.heap.size:=⟨_,rfl⟩
 obtain⟨gD,hgD⟩: ∃gD,gD=gE+1:=⟨_,rfl⟩
 rw[<-hgE,<-hgD] at I6|-
 rw[<-hgE] at GL
 have LK:=hid (show gK<gE/\gM<gE from by have h1:=GL.out;have h2:=HG.out;omega)
 clear hgE hgD
 go_wp2_with (go_at_call 9;(with_reducible refine(KT.out _).mono ?_);rintro e w' ⟨rfl,rfl⟩)
 clear hfld
 go_loopw [35] (fun iv wr=> ∃(k:Nat) (s:En) (m:Mm),k<=N/\iv= .int .i64 k/\Hid s.fit/\Hid m.ok/\Hid (goodM m=true)/\Hid (Ti w wr gE gD gK gM g v s m)) (fun iv _=>N-(intOf iv).toNat)
 case atStart=>exact⟨0,enB,freshM,by omega,rfl,hid enB_fit,hid freshM_ok,hid fresh_good,I6⟩
 case round=>
  clear I6
  obtain⟨k,s,m,hk,rfl,HF,HMK,HMG,HT⟩:=hrel
  by_cases hlt:k<N
  ·obtain⟨ad,t,rfl,ht⟩:=HR.out k hlt
   have HA:=hid (ht.below HT.out.T.bel)
   clear ht
   have b1:decide ((k:Int)<N)=true:=by simp;omega
   go_upto_region 9 with(first
    |(refine wpList_loadG rfl 38 (.tmp 37) rfl (ad.add (k*5)) rfl t.cs _ HA.out.s Tryd.underlying38 rfl sizeTalk ?_)
    |(refine wpList_store_row rfl 38 (.tmp 9) (.tmp 38) rfl _ t.cs.toArray rfl rfl 38 zeroTk.cs.toArray (Blk.new wr 38 zeroTk.cs.toArray) sizeTalk rfl t.one ?_
      have BB:=below_stored wr (.cells zeroTk.cs.toArray 38) t.cs.toArray
      obtain⟨V6,hV⟩: ∃V6,V6=(wr.alloc (.cells zeroTk.cs.toArray 38)).setRow wr.heap.size t.cs.toArray:=⟨_,rfl⟩
      have S6:=hid (show Sk w V6 gE gD gK gM g v wr.heap.size s m t from by rw[hV];exact⟨HT.out.below BB,setRow_heap _ _ _ _ _ _ (Blk.new wr 38 zeroTk.cs.toArray),HT.out.T.lt,HA.out.r.below (BB.mono HT.out.T.bel.size)⟩)
      rw[zeroTk_eq] at hV
      rw[<-hV]
      clear hV BB))
   obtain⟨gT,hgT⟩: ∃gT,gT=wr.heap.size:=⟨_,rfl⟩
   have LOW:=hid (show gK<gT/\gM<gT/\g<gT from by rw[hgT];exact⟨Blk.lt HT.out.D.K,Dd.lt HT.out.D,Blk.lt HT.out.L⟩)
   rw[put_none]
   rw[<-hgT] at S6|-
   clear hgT HT
   obtain⟨fr,hfr⟩: ∃fr,fr=frL t.xs:=⟨_,rfl⟩
   have FL:fr.length=80:=by rw[hfr];exact frL_len _
   have FI:all16 fr=true:=by rw[hfr];exact frL_in _
   have KFm:=hid (fun W (h:Sk w W gE gD gK gM g v gT s m t)=>show Calls Tryd.prog 11 #[.slice t.A t.xs.length t.c] W (fun e w'=> ∃A2 c2,e= .returned (.slice A2 80 c2)/\Own w' W.heap.size A2 c2 fr/\Below W.heap.size W w') from by
    rw[hfr];exact topframe_any t.A t.c t.xs.length t.xs W (h.r.more h.T.T.bel.size) rfl HA.out.l)
   have F2:=enE_fit HF.out FL FI t.q
   have B15:=hid (enBs_len HF.out FL FI t.q)
   have Y80:=hid (enY_len HF.out FL FI t.q)
   have KEn:=hid (fun W A2 c2 (h:Rs W W.heap.size A2 fr) (hS:Sk w W gE gD gK gM g v gT s m t)=>show Calls Tryd.prog 10 #[.agg s.cs.toArray,.slice A2 80 c2,.bool t.q] W (fun e w'=> ∃A3 c3 A4 c4,e= .returned (.tuple #[.agg (enE s fr t.q).ag,.slice A3 15 c3,.slice A4 80 c4,.int .i64 0])/\OwnB w' W.heap.size A3 c3 (enBs s fr t.q)/\Own w' W.heap.size A4 c4 (enY s fr t.q)/\Below W.heap.size W w') from by
    have h1:=encode_any s HF.out.k A2 c2 80 fr t.q W (TT.out.1.below hS.T.T.bel) (TT.out.2.1.below hS.T.T.bel) (TT.out.2.2.below hS.T.T.bel) h FL (by omega)
    unfold EncOut at h1
    rw[B15.out,Y80.out,enc_ok HF.out FL FI] at h1
    exact h1)
   have YS:=en_de HF.out FL FI t.q HMG.out
   have DE0:=hid YS.1
   have DYL:=hid (show(deY m (enBs s fr t.q)).length=80 from by rw[YS.2.2];exact frO_len m _)
   have DMG:=hid (show goodM (deM m (enBs s fr t.q))=true from by rw[YS.2.1];exact frM_good HMG.out (enPk_to s fr t.q) (enPk_len s fr t.q))
   have BYT:=hid (show Byts (enBs s fr t.q) from by rw[enBs_yes HF.out FL FI t.q];exact pk_byts _)
   clear YS
   obtain⟨s2,hs2⟩: ∃s2,s2=enE s fr t.q:=⟨_,rfl⟩
   obtain⟨bs,hbs⟩: ∃bs,bs=enBs s fr t.q:=⟨_,rfl⟩
   obtain⟨ys,hys⟩: ∃ys,ys=enY s fr t.q:=⟨_,rfl⟩
   rw[<-hs2] at F2
   rw[<-hs2,<-hbs,<-hys] at KEn
   rw[<-hbs] at B15 DE0 DYL DMG BYT
   rw[<-hys] at Y80
   have F2:=hid F2
   have K2:=hid F2.out.k
   go_cut [10,11,12,13] (fun s7 s8 s9 s10 wx=> ∃(gx:Nat) (A3:Option Addr) (c3:Nat) (A4:Option Addr) (c4:Nat),s7= .pointer (some ⟨gx,0,none⟩)/\s8= .slice A3 15 c3/\s9= .slice A4 80 c4/\s10= .int .i64 0/\Hid (gT+1<=gx)/\Hid (Sk w wx gE gD gK gM g v gT s m t)/\Hid (EB wx gx s2)/\Hid (OwnB wx (gT+1) A3 c3 bs)/\Hid (Own wx (gT+1) A4 c4 ys))
   case first=>
    clear hs2 hbs hys hfr FL FI
    refine wp_region_held (S:=fun W=>Sk w W gE gD gK gM g v gT s m t) (by kernel_rfl) ?_
    have L1:=hid (Sk.below S6.out ((Below.refl _ _).drew))
    change wpAnyH _ _ _ _ _ _ _ _ (World.drew _)
    obtain⟨W1,hW1⟩: ∃W1,W1=World.drew V6:=⟨_,rfl⟩
    rw[<-hW1] at L1|-
    clear hW1
    refine wpAnyH_take (i:=0) (v:= .agg s.cs.toArray) rfl (by kernel_rfl) (by kernel_rfl) (by kernel_rfl) (fun _ _ _ h=>h) (yieldsIf_load_mid (by rfl) 32 (.tmp 6) rfl gE 0 rfl s.cs _ (fun W hW=>EB.whole hW.T.T.E) Tryd.underlying32 rfl (by rw[sizeE,s.len HF.out.k])) L1.out ?_
    refine wpAnyH_take (i:=1) (v:= .pointer (some ⟨gT,0,none⟩)) rfl (by kernel_rfl) (by kernel_rfl) (by kernel_rfl) (fun _ _ _ h=>h) (.inl ⟨by rfl,fun W hW=>by go_simp⟩) L1.out ?_
    refine wpAnyH_take (i:=2) (v:= .slice t.A t.xs.length t.c) rfl (by kernel_rfl) (by kernel_rfl) (by kernel_rfl) (fun _ _ _ h=>h) (.inl ⟨by rfl,fun W hW=>by have h:=(Tk.at_ hW.K).1;go_simp⟩) L1.out ?_
    refine wpAnyH_take (i:=4) (v:= .pointer (some ⟨gT,1,none⟩)) rfl (by kernel_rfl) (by kernel_rfl) (by kernel_rfl) (fun _ _ _ h=>h) (.inl ⟨by rfl,fun W hW=>by go_simp⟩) L1.out ?_
    refine wpAnyH_take (i:=5) (v:= .bool t.q) rfl (by kernel_rfl) (by kernel_rfl) (by kernel_rfl) (fun _ _ _ h=>h) (.inl ⟨by rfl,fun W hW=>by have h:=(Tk.at_ hW.K).2.1;go_simp⟩) L1.out ?_
    refine wpAnyH_ready (rs:=[3,12]) (by kernel_rfl) (by simp) (AllReadyH.cons rfl (fun K hK=>?_) (AllReadyH.cons rfl (fun K hK=>?_) AllReadyH.nil))
    ·
     go_simp
     with_reducible refine(KFm.out W1 L1.out).mono ?_
     rintro e W2 ⟨A2,c2,rfl,hO,hB⟩
     have L2:=hid (Sk.below L1.out hB)
     have Q2:=hid hB
     have O2:=hid hO.reads
     clear hO hB
     go_simp
     refine hK.out _ _ L2.out (fun _=>?_)
     clear hK K
     refine wpAnyH_ready (rs:=[6,12]) (by kernel_rfl) (by simp) (AllReadyH.cons rfl (fun K hK=>?_) (AllReadyH.cons rfl (fun K hK=>?_) AllReadyH.nil))
     ·
      go_simp
      with_reducible refine(KEn.out W2 _ _ O2.out L2.out).mono ?_
      rintro e W3 ⟨A3,c3,A4,c4,rfl,hP,hR,hB⟩
      have HB:=hid (show gT+1<=W2.heap.size from L2.out.lt)
      have L3:=hid (Sk.below L2.out hB)
      have Q3:=hid hB
      have O3:=hid ((O2.out.below Q3.out).more Q3.out.size)
      have P3:=hid hP
      clear hP
      have R3:=hid hR
      clear hR hB
      go_simp
      refine hK.out _ _ L3.out (fun _=>?_)
      clear hK K
      refine wpAnyH_take (i:=7) (v:= .tuple #[.agg s2.ag,.slice A3 15 c3,.slice A4 80 c4,.int .i64 0]) rfl (by kernel_rfl) (by kernel_rfl) (by kernel_rfl) (fun _ _ _ h=>h) (.inl ⟨by rfl,fun W hW=>by(first|rfl|go_simp)⟩) L3.out ?_
      refine wpAnyH_take (i:=8) (v:= .agg s2.ag) rfl (by kernel_rfl) (by kernel_rfl) (by kernel_rfl) (fun _ _ _ h=>h) (.inl ⟨by rfl,fun W hW=>by(first|rfl|go_simp)⟩) L3.out ?_
      refine wpAnyH_take (i:=9) (v:= .slice A3 15 c3) rfl (by kernel_rfl) (by kernel_rfl) (by kernel_rfl) (fun _ _ _ h=>h) (.inl ⟨by rfl,fun W hW=>by(first|rfl|go_simp)⟩) L3.out ?_
      refine wpAnyH_take (i:=10) (v:= .slice A4 80 c4) rfl (by kernel_rfl) (by kernel_rfl) (by kernel_rfl) (fun _ _ _ h=>h) (.inl ⟨by rfl,fun W hW=>by(first|rfl|go_simp)⟩) L3.out ?_
      refine wpAnyH_take (i:=11) (v:= .int .i64 0) rfl (by kernel_rfl) (by kernel_rfl) (by kernel_rfl) (fun _ _ _ h=>h) (.inl ⟨by rfl,fun W hW=>by(first|rfl|go_simp)⟩) L3.out ?_
      refine wpAnyH_ready (rs:=[12]) (by kernel_rfl) (by simp) (AllReadyH.cons rfl (fun K hK=>?_) AllReadyH.nil)
      go_simp
      have L4:=hid (Sk.below L3.out ((Below.refl _ _).alloc (Nat.le_refl _) (.cells Tryd.zeroCells32 32)))
      have Z4:=hid (newzeroE W3)
      obtain⟨W4,hW4⟩: ∃W4,W4=W3.alloc (.cells Tryd.zeroCells32 32):=⟨_,rfl⟩
      have Q4:=hid (show Below W3.heap.size W3 W4 from by rw[hW4];exact(Below.refl _ _).alloc (Nat.le_refl _) _)
      rw[<-hW4] at L4 Z4|-
      clear hW4
      obtain⟨gx,hgx⟩: ∃gx,gx=W3.heap.size:=⟨_,rfl⟩
      have GX:=hid (show gT+1<=gx from by rw[hgx];exact L3.out.lt)
      have GE:=hid hgx
      rw[<-hgx] at Z4|-
      clear hgx
      have O4:=hid ((O3.out.below Q4.out).more Q4.out.size)
      have P4:=hid (P3.out.below Q4.out)
      have R4:=hid (R3.out.below Q4.out)
      refine hK.out _ _ L4.out (fun _=>?_)
      clear hK K
      refine wpAnyH_ready (rs:=[13]) (by kernel_rfl) (by simp) (AllReadyH.cons rfl (fun K hK=>?_) AllReadyH.nil)
      rw[if_pos (by rfl)]
      simp only[Act.put,List.setIfInBounds_toArray,List.set_cons_zero,List.set_cons_succ,List.getElem_toArray,List.getElem_cons_succ,List.getElem_cons_zero]
      refine wp_store_mid 32 (.tmp 10) (.tmp 47) rfl gx 0 s2.ag rfl rfl (by rw[En.size _ K2.out];exact EB.there Z4.out zeroEn_ok) (by rw[En.size _ K2.out];exact sizeE) (En.one _) ?_
      have LF:=hid (Sk.far L4.out LOW.out GX.out (s2.ag.toList) 0)
      have EF:=hid (EB.setAll Z4.out zeroEn_ok K2.out)
      have PF:=hid (P3.out.below (below_sc (b:=gx) (by rw[GE.out];exact Nat.le_refl _) s2.ag.toList 0 _ Q4.out))
      have RF:=hid (R3.out.below (below_sc (b:=gx) (by rw[GE.out];exact Nat.le_refl _) s2.ag.toList 0 _ Q4.out))
      have NB:=hid (fun a (ha:A3=some a)=>show gT+1<=a.block/\a.block≠gx from by have h1:=P3.out.lt a ha;have h2:=GE.out;have h3:=HB.out;omega)
      obtain⟨WF,hWF⟩: ∃WF,WF=W4.setCells gx 0 s2.ag.toList:=⟨_,rfl⟩
      have EF:=hid (show EB (W4.setCells gx 0 s2.ag.toList) gx s2 from EF.out)
      rw[<-hWF] at LF EF PF RF|-
      clear hWF
      refine hK.out _ _ LF.out (fun _=>?_)
      clear hK K
      refine wpAnyH_take (i:=14) (v:= .slice A3 15 c3) rfl (by kernel_rfl) (by kernel_rfl) (by kernel_rfl) (fun _ _ _ h=>h) (.inl ⟨by rfl,fun W hW=>by(first|rfl|go_simp)⟩) LF.out ?_
      refine wpAnyH_take (i:=15) (v:= .slice A4 80 c4) rfl (by kernel_rfl) (by kernel_rfl) (by kernel_rfl) (fun _ _ _ h=>h) (.inl ⟨by rfl,fun W hW=>by(first|rfl|go_simp)⟩) LF.out ?_
      refine wpAnyH_take (i:=16) (v:= .int .i64 0) rfl (by kernel_rfl) (by kernel_rfl) (by kernel_rfl) (fun _ _ _ h=>h) (.inl ⟨by rfl,fun W hW=>by(first|rfl|go_simp)⟩) LF.out ?_
      refine wpAnyH_done (by kernel_rfl) ?_ _
      go_wp2_with fail
      go_meet
      exact⟨gx,A3,c3,A4,c4,rfl,rfl,rfl,rfl,GX,LF,EF,hid (PF.out.more HB.out),hid (RF.out.more HB.out)⟩
     ·
      go_simp
      have L3:=hid (Sk.below L2.out ((Below.refl _ _).alloc (Nat.le_refl _) (.cells Tryd.zeroCells32 32)))
      have Z3:=hid (newzeroE W2)
      obtain⟨W3,hW3⟩: ∃W3,W3=W2.alloc (.cells Tryd.zeroCells32 32):=⟨_,rfl⟩
      have Q3:=hid (show Below W2.heap.size W2 W3 from by rw[hW3];exact(Below.refl _ _).alloc (Nat.le_refl _) _)
      rw[<-hW3] at L3 Z3|-
      clear hW3
      obtain⟨gx,hgx⟩: ∃gx,gx=W2.heap.size:=⟨_,rfl⟩
      have GX:=hid (show gT+1<=gx from by rw[hgx];exact L2.out.lt)
      have GE:=hid hgx
      rw[<-hgx] at Z3|-
      clear hgx
      have O3:=hid ((O2.out.below Q3.out).more Q3.out.size)
      refine hK.out _ _ L3.out (fun _=>?_)
      clear hK K
      refine wpAnyH_ready (rs:=[6]) (by kernel_rfl) (by simp) (AllReadyH.cons rfl (fun K hK=>?_) AllReadyH.nil)
      go_simp
      with_reducible refine(KEn.out W3 _ _ O3.out L3.out).mono ?_
      rintro e W4 ⟨A3,c3,A4,c4,rfl,hP,hR,hB⟩
      have HB:=hid (show gT+1<=W3.heap.size from L3.out.lt)
      have GB:=hid (show gx<W3.heap.size from Blk.lt Z3.out)
      have L4:=hid (Sk.below L3.out hB)
      have Q4:=hid hB
      have O4:=hid ((O3.out.below Q4.out).more Q4.out.size)
      have Z4:=hid (Blk.below' Z3.out Q4.out)
      have P4:=hid hP
      clear hP
      have R4:=hid hR
      clear hR hB
      go_simp
      refine hK.out _ _ L4.out (fun _=>?_)
      clear hK K
      refine wpAnyH_take (i:=7) (v:= .tuple #[.agg s2.ag,.slice A3 15 c3,.slice A4 80 c4,.int .i64 0]) rfl (by kernel_rfl) (by kernel_rfl) (by kernel_rfl) (fun _ _ _ h=>h) (.inl ⟨by rfl,fun W hW=>by(first|rfl|go_simp)⟩) L4.out ?_
      refine wpAnyH_take (i:=8) (v:= .agg s2.ag) rfl (by kernel_rfl) (by kernel_rfl) (by kernel_rfl) (fun _ _ _ h=>h) (.inl ⟨by rfl,fun W hW=>by(first|rfl|go_simp)⟩) L4.out ?_
      refine wpAnyH_take (i:=9) (v:= .slice A3 15 c3) rfl (by kernel_rfl) (by kernel_rfl) (by kernel_rfl) (fun _ _ _ h=>h) (.inl ⟨by rfl,fun W hW=>by(first|rfl|go_simp)⟩) L4.out ?_
      refine wpAnyH_take (i:=10) (v:= .slice A4 80 c4) rfl (by kernel_rfl) (by kernel_rfl) (by kernel_rfl) (fun _ _ _ h=>h) (.inl ⟨by rfl,fun W hW=>by(first|rfl|go_simp)⟩) L4.out ?_
      refine wpAnyH_take (i:=11) (v:= .int .i64 0) rfl (by kernel_rfl) (by kernel_rfl) (by kernel_rfl) (fun _ _ _ h=>h) (.inl ⟨by rfl,fun W hW=>by(first|rfl|go_simp)⟩) L4.out ?_
      refine wpAnyH_ready (rs:=[13]) (by kernel_rfl) (by simp) (AllReadyH.cons rfl (fun K hK=>?_) AllReadyH.nil)
      rw[if_pos (by rfl)]
      simp only[Act.put,List.setIfInBounds_toArray,List.set_cons_zero,List.set_cons_succ,List.getElem_toArray,List.getElem_cons_succ,List.getElem_cons_zero]
      refine wp_store_mid 32 (.tmp 10) (.tmp 47) rfl gx 0 s2.ag rfl rfl (by rw[En.size _ K2.out];exact EB.there Z4.out zeroEn_ok) (by rw[En.size _ K2.out];exact sizeE) (En.one _) ?_
      have LF:=hid (Sk.far L4.out LOW.out GX.out (s2.ag.toList) 0)
      have EF:=hid (EB.setAll Z4.out zeroEn_ok K2.out)
      have PF:=hid (ownB_setCs (g:=gx) GB.out s2.ag.toList 0 _ P4.out)
      have RF:=hid (Own.setCs (g:=gx) GB.out s2.ag.toList 0 _ R4.out)
      have NB:=hid (fun a (ha:A3=some a)=>show gT+1<=a.block/\a.block≠gx from by have h1:=(PF.out.lt a ha).1;have h2:=GB.out;have h3:=HB.out;omega)
      obtain⟨WF,hWF⟩: ∃WF,WF=W4.setCells gx 0 s2.ag.toList:=⟨_,rfl⟩
      have EF:=hid (show EB (W4.setCells gx 0 s2.ag.toList) gx s2 from EF.out)
      rw[<-hWF] at LF EF PF RF|-
      clear hWF
      refine hK.out _ _ LF.out (fun _=>?_)
      clear hK K
      refine wpAnyH_take (i:=14) (v:= .slice A3 15 c3) rfl (by kernel_rfl) (by kernel_rfl) (by kernel_rfl) (fun _ _ _ h=>h) (.inl ⟨by rfl,fun W hW=>by(first|rfl|go_simp)⟩) LF.out ?_
      refine wpAnyH_take (i:=15) (v:= .slice A4 80 c4) rfl (by kernel_rfl) (by kernel_rfl) (by kernel_rfl) (fun _ _ _ h=>h) (.inl ⟨by rfl,fun W hW=>by(first|rfl|go_simp)⟩) LF.out ?_
      refine wpAnyH_take (i:=16) (v:= .int .i64 0) rfl (by kernel_rfl) (by kernel_rfl) (by kernel_rfl) (fun _ _ _ h=>h) (.inl ⟨by rfl,fun W hW=>by(first|rfl|go_simp)⟩) LF.out ?_
      refine wpAnyH_done (by kernel_rfl) ?_ _
      go_wp2_with fail
      go_meet
      exact⟨gx,A3,c3,A4,c4,rfl,rfl,rfl,rfl,GX,LF,EF,hid (PF.out.more HB.out),hid (RF.out.more HB.out)⟩
    ·
     go_simp
     have L2:=hid (Sk.below L1.out ((Below.refl _ _).alloc (Nat.le_refl _) (.cells Tryd.zeroCells32 32)))
     have Z2:=hid (newzeroE W1)
     obtain⟨W2,hW2⟩: ∃W2,W2=W1.alloc (.cells Tryd.zeroCells32 32):=⟨_,rfl⟩
     have Q2:=hid (show Below W1.heap.size W1 W2 from by rw[hW2];exact(Below.refl _ _).alloc (Nat.le_refl _) _)
     rw[<-hW2] at L2 Z2|-
     clear hW2
     obtain⟨gx,hgx⟩: ∃gx,gx=W1.heap.size:=⟨_,rfl⟩
     have GX:=hid (show gT+1<=gx from by rw[hgx];exact L1.out.lt)
     have GE:=hid hgx
     rw[<-hgx] at Z2|-
     clear hgx
     refine hK.out _ _ L2.out (fun _=>?_)
     clear hK K
     refine wpAnyH_ready (rs:=[3]) (by kernel_rfl) (by simp) (AllReadyH.cons rfl (fun K hK=>?_) AllReadyH.nil)
     go_simp
     with_reducible refine(KFm.out W2 L2.out).mono ?_
     rintro e W3 ⟨A2,c2,rfl,hO,hB⟩
     have L3:=hid (Sk.below L2.out hB)
     have Q3:=hid hB
     have Z3:=hid (Blk.below' Z2.out Q3.out)
     have O3:=hid hO.reads
     clear hO hB
     go_simp
     refine hK.out _ _ L3.out (fun _=>?_)
     clear hK K
     refine wpAnyH_ready (rs:=[6]) (by kernel_rfl) (by simp) (AllReadyH.cons rfl (fun K hK=>?_) AllReadyH.nil)
     go_simp
     with_reducible refine(KEn.out W3 _ _ O3.out L3.out).mono ?_
     rintro e W4 ⟨A3,c3,A4,c4,rfl,hP,hR,hB⟩
     have HB:=hid (show gT+1<=W3.heap.size from L3.out.lt)
     have GB:=hid (show gx<W3.heap.size from Blk.lt Z3.out)
     have L4:=hid (Sk.below L3.out hB)
     have Q4:=hid hB
     have O4:=hid ((O3.out.below Q4.out).more Q4.out.size)
     have Z4:=hid (Blk.below' Z3.out Q4.out)
     have P4:=hid hP
     clear hP
     have R4:=hid hR
     clear hR hB
     go_simp
     refine hK.out _ _ L4.out (fun _=>?_)
     clear hK K
     refine wpAnyH_take (i:=7) (v:= .tuple #[.agg s2.ag,.slice A3 15 c3,.slice A4 80 c4,.int .i64 0]) rfl (by kernel_rfl) (by kernel_rfl) (by kernel_rfl) (fun _ _ _ h=>h) (.inl ⟨by rfl,fun W hW=>by(first|rfl|go_simp)⟩) L4.out ?_
     refine wpAnyH_take (i:=8) (v:= .agg s2.ag) rfl (by kernel_rfl) (by kernel_rfl) (by kernel_rfl) (fun _ _ _ h=>h) (.inl ⟨by rfl,fun W hW=>by(first|rfl|go_simp)⟩) L4.out ?_
     refine wpAnyH_take (i:=9) (v:= .slice A3 15 c3) rfl (by kernel_rfl) (by kernel_rfl) (by kernel_rfl) (fun _ _ _ h=>h) (.inl ⟨by rfl,fun W hW=>by(first|rfl|go_simp)⟩) L4.out ?_
     refine wpAnyH_take (i:=10) (v:= .slice A4 80 c4) rfl (by kernel_rfl) (by kernel_rfl) (by kernel_rfl) (fun _ _ _ h=>h) (.inl ⟨by rfl,fun W hW=>by(first|rfl|go_simp)⟩) L4.out ?_
     refine wpAnyH_take (i:=11) (v:= .int .i64 0) rfl (by kernel_rfl) (by kernel_rfl) (by kernel_rfl) (fun _ _ _ h=>h) (.inl ⟨by rfl,fun W hW=>by(first|rfl|go_simp)⟩) L4.out ?_
     refine wpAnyH_ready (rs:=[13]) (by kernel_rfl) (by simp) (AllReadyH.cons rfl (fun K hK=>?_) AllReadyH.nil)
     rw[if_pos (by rfl)]
     simp only[Act.put,List.setIfInBounds_toArray,List.set_cons_zero,List.set_cons_succ,List.getElem_toArray,List.getElem_cons_succ,List.getElem_cons_zero]
     refine wp_store_mid 32 (.tmp 10) (.tmp 47) rfl gx 0 s2.ag rfl rfl (by rw[En.size _ K2.out];exact EB.there Z4.out zeroEn_ok) (by rw[En.size _ K2.out];exact sizeE) (En.one _) ?_
     have LF:=hid (Sk.far L4.out LOW.out GX.out (s2.ag.toList) 0)
     have EF:=hid (EB.setAll Z4.out zeroEn_ok K2.out)
     have PF:=hid (ownB_setCs (g:=gx) GB.out s2.ag.toList 0 _ P4.out)
     have RF:=hid (Own.setCs (g:=gx) GB.out s2.ag.toList 0 _ R4.out)
     have NB:=hid (fun a (ha:A3=some a)=>show gT+1<=a.block/\a.block≠gx from by have h1:=(PF.out.lt a ha).1;have h2:=GB.out;have h3:=HB.out;omega)
     obtain⟨WF,hWF⟩: ∃WF,WF=W4.setCells gx 0 s2.ag.toList:=⟨_,rfl⟩
     have EF:=hid (show EB (W4.setCells gx 0 s2.ag.toList) gx s2 from EF.out)
     rw[<-hWF] at LF EF PF RF|-
     clear hWF
     refine hK.out _ _ LF.out (fun _=>?_)
     clear hK K
     refine wpAnyH_take (i:=14) (v:= .slice A3 15 c3) rfl (by kernel_rfl) (by kernel_rfl) (by kernel_rfl) (fun _ _ _ h=>h) (.inl ⟨by rfl,fun W hW=>by(first|rfl|go_simp)⟩) LF.out ?_
     refine wpAnyH_take (i:=15) (v:= .slice A4 80 c4) rfl (by kernel_rfl) (by kernel_rfl) (by kernel_rfl) (fun _ _ _ h=>h) (.inl ⟨by rfl,fun W hW=>by(first|rfl|go_simp)⟩) LF.out ?_
     refine wpAnyH_take (i:=16) (v:= .int .i64 0) rfl (by kernel_rfl) (by kernel_rfl) (by kernel_rfl) (fun _ _ _ h=>h) (.inl ⟨by rfl,fun W hW=>by(first|rfl|go_simp)⟩) LF.out ?_
     refine wpAnyH_done (by kernel_rfl) ?_ _
     go_wp2_with fail
     go_meet
     exact⟨gx,A3,c3,A4,c4,rfl,rfl,rfl,rfl,GX,LF,EF,hid (PF.out.more HB.out),hid (RF.out.more HB.out)⟩
   case rest=>
    obtain⟨gx,A3,c3,A4,c4,rfl,rfl,rfl,rfl,GX,SK,EX,PX,RX⟩:=hcut
    have N0:=hid (⟨SK.out,EX.out,PX.out,RX.out⟩:Sn w wc gE gD gK gM g v gT s m t gx s2 A3 c3 bs A4 c4 ys)
    have HL:=hid (show gD<gT from SK.out.l)
    have KDo:=hid (fun W A2 c2 (h:Rs W W.heap.size A2 fr) (hS:Sn w W gE gD gK gM g v gT s m t gx s2 A3 c3 bs A4 c4 ys)=>show Calls Tryd.prog 18 #[.pointer (some ⟨gK,0,none⟩),.agg #[.int .i64 2,.int .i64 v,.bool t.q,.slice A2 80 c2,.slice none 0 0]] W (fun x w'=> ∃A5 c5 A6 c6,x= .returned (.agg (ansC 0 v A5 15 c5 A6 80 c6))/\OwnB w' W.heap.size A5 c5 bs/\Own w' W.heap.size A6 c6 ys/\Dd w' gK gM 1 (D1 v g)/\LB w' g s2 m/\W.grownBy w' (some g)) from by
     have h1:=deskDo_enc gK gM 1 (D1 v g) g s m ⟨2,v,t.q,A2,80,c2,none,0,0⟩ fr W (TT.out.1.below hS.K.T.T.bel) (TT.out.2.1.below hS.K.T.T.bel) (TT.out.2.2.below hS.K.T.T.bel) hS.K.T.D hS.K.T.L HF.out.k HMK.out (by show-9223372036854775808<=v/\v<=9223372036854775807;omega) (D1_has v g) (D1_at v g) rfl (Blk.lt hS.K.T.L) ⟨Blk.lt hS.K.T.D.K,Dd.lt hS.K.T.D⟩ h FL (by show 80<=17592186044000;omega) (enc_ok HF.out FL FI) (by show(enE s fr t.q).ok;rw[<-hs2];exact K2.out)
     rw[<-hs2,<-hbs,<-hys,B15.out,Y80.out] at h1
     exact h1)
    clear KEn S6 SK EX PX RX hs2 hbs hys hfr FL FI
    go_upto_region 10 with fail
    obtain⟨w9,hw9⟩: ∃w9,w9=wc:=⟨_,rfl⟩
    rw[<-hw9] at N0|-
    clear hw9
    go_cut [14] (fun s7 wx=> ∃(gA:Nat) (A5:Option Addr) (c5:Nat) (A6:Option Addr) (c6:Nat),s7= .pointer (some ⟨gA,0,none⟩)/\Hid (So w wx gE gD gK gM g v gT s m t gx s2 A3 c3 bs A4 c4 ys A5 c5 A6 c6)/\Hid (Blk wx gA 58 (ansC 0 v A5 15 c5 A6 80 c6)))
    case first=>
     refine wp_region_held (S:=fun W=>Blk W gT 38 t.cs.toArray) (by kernel_rfl) ?_
     have L1:=hid (N0.out.below ((Below.refl _ _).drew))
     change wpAnyH _ _ _ _ _ _ _ _ (World.drew _)
     obtain⟨W1,hW1⟩: ∃W1,W1=World.drew w9:=⟨_,rfl⟩
     rw[<-hW1] at L1|-
     clear hW1
     have H1:=hid (Nat.le_refl W1.heap.size)
     have NB:=hid (show gT<W1.heap.size/\gx<W1.heap.size/\(∀a,A3=some a->a.block<W1.heap.size)/\(∀a,A4=some a->a.block<W1.heap.size) from⟨L1.out.K.lt,Blk.lt L1.out.X,fun a ha=>(L1.out.P.lt a ha).2,fun a ha=>(L1.out.R.lt a ha).2⟩)
     refine wpAnyH_take (i:=0) (v:= .pointer (some ⟨gK,0,none⟩)) rfl (by kernel_rfl) (by kernel_rfl) (by kernel_rfl) (fun _ _ _ h=>h) (.inl ⟨by rfl,fun W hW=>by(first|rfl|go_simp)⟩) L1.out.K.K ?_
     refine wpAnyH_take (i:=1) (v:= .int .i64 v) rfl (by kernel_rfl) (by kernel_rfl) (by kernel_rfl) (fun _ _ _ h=>h) (.inl ⟨by rfl,fun W hW=>by(first|rfl|go_simp)⟩) L1.out.K.K ?_
     refine wpAnyH_take (i:=2) (v:= .pointer (some ⟨gT,0,none⟩)) rfl (by kernel_rfl) (by kernel_rfl) (by kernel_rfl) (fun _ _ _ h=>h) (.inl ⟨by rfl,fun W hW=>by(first|rfl|go_simp)⟩) L1.out.K.K ?_
     refine wpAnyH_take (i:=3) (v:= .slice t.A t.xs.length t.c) rfl (by kernel_rfl) (by kernel_rfl) (by kernel_rfl) (fun _ _ _ h=>h) (.inl ⟨by rfl,fun W hW=>by have h:=(Tk.at_ hW).1;go_simp⟩) L1.out.K.K ?_
     refine wpAnyH_take (i:=5) (v:= .pointer (some ⟨gT,1,none⟩)) rfl (by kernel_rfl) (by kernel_rfl) (by kernel_rfl) (fun _ _ _ h=>h) (.inl ⟨by rfl,fun W hW=>by(first|rfl|go_simp)⟩) L1.out.K.K ?_
     refine wpAnyH_take (i:=6) (v:= .bool t.q) rfl (by kernel_rfl) (by kernel_rfl) (by kernel_rfl) (fun _ _ _ h=>h) (.inl ⟨by rfl,fun W hW=>by have h:=(Tk.at_ hW).2.1;go_simp⟩) L1.out.K.K ?_
     refine wpAnyH_ready (rs:=[4,9]) (by kernel_rfl) (by simp) (AllReadyH.cons rfl (fun K hK=>?_) (AllReadyH.cons rfl (fun K hK=>?_) AllReadyH.nil))
     ·
      go_simp
      with_reducible refine(KFm.out W1 L1.out.K).mono ?_
      rintro e W2 ⟨A2,c2,rfl,hO,hB⟩
      have L2:=hid (L1.out.below hB)
      have H2:=hid (show W1.heap.size<=W2.heap.size from Nat.le_trans H1.out hB.size)
      have O2:=hid (hO.reads)
      clear hO hB
      go_simp
      refine hK.out _ _ L2.out.K.K (fun _=>?_)
      clear hK K
      refine wpAnyH_take (i:=7) (v:= .agg #[.int .i64 2,.int .i64 v,.bool t.q,.slice A2 80 c2,.slice none 0 0]) rfl (by kernel_rfl) (by kernel_rfl) (by kernel_rfl) (fun _ _ _ h=>h) (.inl ⟨by rfl,fun W hW=>by(first|rfl|go_simp)⟩) L2.out.K.K ?_
      refine wpAnyH_ready (rs:=[8,9]) (by kernel_rfl) (by simp) (AllReadyH.cons rfl (fun K hK=>?_) (AllReadyH.cons rfl (fun K hK=>?_) AllReadyH.nil))
      ·
       go_simp
       with_reducible refine(KDo.out W2 _ _ O2.out L2.out).mono ?_
       rintro e W3 ⟨A5,c5,A6,c6,rfl,hQ,hY,hD,hL,hG⟩
       have L3:=hid (So.of L2.out hG HGW.out LOW.out.2.2 hD hL hQ hY)
       have H3:=hid (show W1.heap.size<=W3.heap.size from Nat.le_trans H2.out hG.size)
       clear hQ hY hD hL hG
       go_simp
       refine hK.out _ _ L3.out.K (fun _=>?_)
       clear hK K
       refine wpAnyH_ready (rs:=[9]) (by kernel_rfl) (by simp) (AllReadyH.cons rfl (fun K hK=>?_) AllReadyH.nil)
       go_simp
       have L4:=hid (L3.out.below ((Below.refl _ _).alloc (Nat.le_refl _) (.cells #[.int .i64 0,.int .i64 0,.slice none 0 0,.slice none 0 0] 58)))
       have Z4:=hid (Blk.new W3 58 #[.int .i64 0,.int .i64 0,.slice none 0 0,.slice none 0 0])
       have H4:=hid (show W1.heap.size<=(W3.alloc (.cells #[.int .i64 0,.int .i64 0,.slice none 0 0,.slice none 0 0] 58)).heap.size from Nat.le_trans H3.out (by simp))
       have NQ:=hid (show(∀a,A5=some a->a.block≠W3.heap.size)/\(∀a,A6=some a->a.block≠W3.heap.size) from⟨fun a ha=>by have:=(L3.out.Q.lt a ha).2;omega,fun a ha=>by have:=(L3.out.Y.lt a ha).2;omega⟩)
       obtain⟨W4,hW4⟩: ∃W4,W4=W3.alloc (.cells #[.int .i64 0,.int .i64 0,.slice none 0 0,.slice none 0 0] 58):=⟨_,rfl⟩
       rw[<-hW4] at L4 Z4 H4|-
       clear hW4
       obtain⟨gA,hgA⟩: ∃gA,gA=W3.heap.size:=⟨_,rfl⟩
       have HA:=hid (show W1.heap.size<=gA from by rw[hgA];exact H3.out)
       rw[<-hgA] at Z4 NQ|-
       clear hgA
       refine hK.out _ _ L4.out.K (fun _=>?_)
       clear hK K
       refine wpAnyH_ready (rs:=[10]) (by kernel_rfl) (by simp) (AllReadyH.cons rfl (fun K hK=>?_) AllReadyH.nil)
       rw[if_pos (by rfl)]
       simp only[Act.put,List.setIfInBounds_toArray,List.set_cons_zero,List.set_cons_succ,List.getElem_toArray,List.getElem_cons_succ,List.getElem_cons_zero]
       refine wp_store_mid 58 (.tmp 14) (.tmp 59) rfl gA 0 (ansC 0 v A5 15 c5 A6 80 c6) rfl rfl (ansThere Z4.out rfl) sizeAns (one_ans _ _ _ _ _ _ _ _) ?_
       have LF:=hid (So.far L4.out LOW.out HL.out HA.out NB.out NQ.out (ansC 0 v A5 15 c5 A6 80 c6).toList 0)
       have ZF:=hid (ansSet Z4.out (ansC 0 v A5 15 c5 A6 80 c6) rfl)
       obtain⟨WF,hWF⟩: ∃WF,WF=W4.setCells gA 0 (ansC 0 v A5 15 c5 A6 80 c6).toList:=⟨_,rfl⟩
       rw[<-hWF] at LF ZF|-
       clear hWF
       refine hK.out _ _ LF.out.K (fun _=>?_)
       clear hK K
       refine wpAnyH_done (by kernel_rfl) ?_ _
       go_wp2_with fail
       go_meet
       exact⟨gA,A5,c5,A6,c6,rfl,LF,ZF⟩
      ·
       go_simp
       have L3:=hid (L2.out.below ((Below.refl _ _).alloc (Nat.le_refl _) (.cells #[.int .i64 0,.int .i64 0,.slice none 0 0,.slice none 0 0] 58)))
       have Z3:=hid (Blk.new W2 58 #[.int .i64 0,.int .i64 0,.slice none 0 0,.slice none 0 0])
       have O3:=hid ((O2.out.below ((Below.refl _ _).alloc (Nat.le_refl _) (.cells #[.int .i64 0,.int .i64 0,.slice none 0 0,.slice none 0 0] 58))).more (Below.size ((Below.refl _ _).alloc (Nat.le_refl _) (.cells #[.int .i64 0,.int .i64 0,.slice none 0 0,.slice none 0 0] 58))))
       have H3:=hid (show W1.heap.size<=(W2.alloc (.cells #[.int .i64 0,.int .i64 0,.slice none 0 0,.slice none 0 0] 58)).heap.size from Nat.le_trans H2.out (by simp))
       obtain⟨W3,hW3⟩: ∃W3,W3=W2.alloc (.cells #[.int .i64 0,.int .i64 0,.slice none 0 0,.slice none 0 0] 58):=⟨_,rfl⟩
       rw[<-hW3] at L3 Z3 H3 O3|-
       clear hW3
       obtain⟨gA,hgA⟩: ∃gA,gA=W2.heap.size:=⟨_,rfl⟩
       have HA:=hid (show W1.heap.size<=gA from by rw[hgA];exact H2.out)
       rw[<-hgA] at Z3|-
       clear hgA
       refine hK.out _ _ L3.out.K.K (fun _=>?_)
       clear hK K
       refine wpAnyH_ready (rs:=[8]) (by kernel_rfl) (by simp) (AllReadyH.cons rfl (fun K hK=>?_) AllReadyH.nil)
       go_simp
       with_reducible refine(KDo.out W3 _ _ O3.out L3.out).mono ?_
       rintro e W4 ⟨A5,c5,A6,c6,rfl,hQ,hY,hD,hL,hG⟩
       have L4:=hid (So.of L3.out hG HGW.out LOW.out.2.2 hD hL hQ hY)
       have H4:=hid (show W1.heap.size<=W4.heap.size from Nat.le_trans H3.out hG.size)
       have GA:=hid (show gA<W3.heap.size from Blk.lt Z3.out)
       have NQ:=hid (show(∀a,A5=some a->a.block≠gA)/\(∀a,A6=some a->a.block≠gA) from⟨fun a ha=>by have:=(hQ.lt a ha).1;have:=GA.out;omega,fun a ha=>by have:=(hY.lt a ha).1;have:=GA.out;omega⟩)
       have Z4:=hid ((hG.block gA GA.out (fun x=>blk_ne Z3.out L3.out.K.T.L (by decide) (Option.some.inj x))).trans Z3.out)
       clear hQ hY hD hL hG
       go_simp
       refine hK.out _ _ L4.out.K (fun _=>?_)
       clear hK K
       refine wpAnyH_ready (rs:=[10]) (by kernel_rfl) (by simp) (AllReadyH.cons rfl (fun K hK=>?_) AllReadyH.nil)
       rw[if_pos (by rfl)]
       simp only[Act.put,List.setIfInBounds_toArray,List.set_cons_zero,List.set_cons_succ,List.getElem_toArray,List.getElem_cons_succ,List.getElem_cons_zero]
       refine wp_store_mid 58 (.tmp 14) (.tmp 59) rfl gA 0 (ansC 0 v A5 15 c5 A6 80 c6) rfl rfl (ansThere Z4.out rfl) sizeAns (one_ans _ _ _ _ _ _ _ _) ?_
       have LF:=hid (So.far L4.out LOW.out HL.out HA.out NB.out NQ.out (ansC 0 v A5 15 c5 A6 80 c6).toList 0)
       have ZF:=hid (ansSet Z4.out (ansC 0 v A5 15 c5 A6 80 c6) rfl)
       obtain⟨WF,hWF⟩: ∃WF,WF=W4.setCells gA 0 (ansC 0 v A5 15 c5 A6 80 c6).toList:=⟨_,rfl⟩
       rw[<-hWF] at LF ZF|-
       clear hWF
       refine hK.out _ _ LF.out.K (fun _=>?_)
       clear hK K
       refine wpAnyH_done (by kernel_rfl) ?_ _
       go_wp2_with fail
       go_meet
       exact⟨gA,A5,c5,A6,c6,rfl,LF,ZF⟩
     ·
      go_simp
      have L2:=hid (L1.out.below ((Below.refl _ _).alloc (Nat.le_refl _) (.cells #[.int .i64 0,.int .i64 0,.slice none 0 0,.slice none 0 0] 58)))
      have Z2:=hid (Blk.new W1 58 #[.int .i64 0,.int .i64 0,.slice none 0 0,.slice none 0 0])
      have H2:=hid (show W1.heap.size<=(W1.alloc (.cells #[.int .i64 0,.int .i64 0,.slice none 0 0,.slice none 0 0] 58)).heap.size from Nat.le_trans H1.out (by simp))
      obtain⟨W2,hW2⟩: ∃W2,W2=W1.alloc (.cells #[.int .i64 0,.int .i64 0,.slice none 0 0,.slice none 0 0] 58):=⟨_,rfl⟩
      rw[<-hW2] at L2 Z2 H2|-
      clear hW2
      obtain⟨gA,hgA⟩: ∃gA,gA=W1.heap.size:=⟨_,rfl⟩
      have HA:=hid (show W1.heap.size<=gA from by rw[hgA];exact H1.out)
      rw[<-hgA] at Z2|-
      clear hgA
      refine hK.out _ _ L2.out.K.K (fun _=>?_)
      clear hK K
      refine wpAnyH_ready (rs:=[4]) (by kernel_rfl) (by simp) (AllReadyH.cons rfl (fun K hK=>?_) AllReadyH.nil)
      go_simp
      with_reducible refine(KFm.out W2 L2.out.K).mono ?_
      rintro e W3 ⟨A2,c2,rfl,hO,hB⟩
      have L3:=hid (L2.out.below hB)
      have H3:=hid (show W1.heap.size<=W3.heap.size from Nat.le_trans H2.out hB.size)
      have Z3:=hid (Blk.below' Z2.out hB)
      have O3:=hid (hO.reads)
      clear hO hB
      go_simp
      refine hK.out _ _ L3.out.K.K (fun _=>?_)
      clear hK K
      refine wpAnyH_take (i:=7) (v:= .agg #[.int .i64 2,.int .i64 v,.bool t.q,.slice A2 80 c2,.slice none 0 0]) rfl (by kernel_rfl) (by kernel_rfl) (by kernel_rfl) (fun _ _ _ h=>h) (.inl ⟨by rfl,fun W hW=>by(first|rfl|go_simp)⟩) L3.out.K.K ?_
      refine wpAnyH_ready (rs:=[8]) (by kernel_rfl) (by simp) (AllReadyH.cons rfl (fun K hK=>?_) AllReadyH.nil)
      go_simp
      with_reducible refine(KDo.out W3 _ _ O3.out L3.out).mono ?_
      rintro e W4 ⟨A5,c5,A6,c6,rfl,hQ,hY,hD,hL,hG⟩
      have L4:=hid (So.of L3.out hG HGW.out LOW.out.2.2 hD hL hQ hY)
      have H4:=hid (show W1.heap.size<=W4.heap.size from Nat.le_trans H3.out hG.size)
      have GA:=hid (show gA<W3.heap.size from Blk.lt Z3.out)
      have NQ:=hid (show(∀a,A5=some a->a.block≠gA)/\(∀a,A6=some a->a.block≠gA) from⟨fun a ha=>by have:=(hQ.lt a ha).1;have:=GA.out;omega,fun a ha=>by have:=(hY.lt a ha).1;have:=GA.out;omega⟩)
      have Z4:=hid ((hG.block gA GA.out (fun x=>blk_ne Z3.out L3.out.K.T.L (by decide) (Option.some.inj x))).trans Z3.out)
      clear hQ hY hD hL hG
      go_simp
      refine hK.out _ _ L4.out.K (fun _=>?_)
      clear hK K
      refine wpAnyH_ready (rs:=[10]) (by kernel_rfl) (by simp) (AllReadyH.cons rfl (fun K hK=>?_) AllReadyH.nil)
      rw[if_pos (by rfl)]
      simp only[Act.put,List.setIfInBounds_toArray,List.set_cons_zero,List.set_cons_succ,List.getElem_toArray,List.getElem_cons_succ,List.getElem_cons_zero]
      refine wp_store_mid 58 (.tmp 14) (.tmp 59) rfl gA 0 (ansC 0 v A5 15 c5 A6 80 c6) rfl rfl (ansThere Z4.out rfl) sizeAns (one_ans _ _ _ _ _ _ _ _) ?_
      have LF:=hid (So.far L4.out LOW.out HL.out HA.out NB.out NQ.out (ansC 0 v A5 15 c5 A6 80 c6).toList 0)
      have ZF:=hid (ansSet Z4.out (ansC 0 v A5 15 c5 A6 80 c6) rfl)
      obtain⟨WF,hWF⟩: ∃WF,WF=W4.setCells gA 0 (ansC 0 v A5 15 c5 A6 80 c6).toList:=⟨_,rfl⟩
      rw[<-hWF] at LF ZF|-
      clear hWF
      refine hK.out _ _ LF.out.K (fun _=>?_)
      clear hK K
      refine wpAnyH_done (by kernel_rfl) ?_ _
      go_wp2_with fail
      go_meet
      exact⟨gA,A5,c5,A6,c6,rfl,LF,ZF⟩
    case rest=>
     obtain⟨gA,A5,c5,A6,c6,rfl,SO,ZA⟩:=hcut
     clear KFm KDo N0
     have KSa:=hid (show Calls Tryd.prog 20 #[.agg (ansC 0 v A5 15 c5 A6 80 c6),.agg #[.int .i64 0,.int .i64 v,.slice A3 15 c3,.slice A4 80 c4]] wc (fun e w'=>e= .returned (.bool true)/\Below wc.heap.size wc w') from sameAns_yes 0 v A5 A6 A3 A4 15 c5 80 c6 c3 c4 bs ys wc SO.out.Q.reads SO.out.Y.reads SO.out.P.reads SO.out.R.reads B15.out Y80.out (by omega))
     have c15:=SO.out.P.cap.1
     rw[B15.out] at c15
     have C15:=hid c15
     clear c15
     go_wp2_with (refine wpList_loadC rfl 58 (.tmp 14) rfl gA 58 (ansC 0 v A5 15 c5 A6 80 c6) _ rfl ZA.out Tryd.underlying58 rfl sizeAns ?_)
     with_reducible refine KSa.out.mono ?_
     rintro e w10 ⟨rfl,hB⟩
     have S10:=SO.out.below hB
     have R10:=hid (show Sr w w10 gE gD gK gM g v gT s s2 m m t A3 c3 bs from⟨S10.T,S10.D,S10.L,S10.K,S10.P⟩)
     have X10:=hid S10.X
     clear S10 hB SO ZA KSa
     have R11:=hid (R10.out.setE (s3:=s2) LK.out HL.out)
     obtain⟨V11,hV11⟩: ∃V11,V11=w10.setRow gE s2.ag:=⟨_,rfl⟩
     rw[<-hV11] at R11
     have HV11:=hid hV11
     clear hV11
     have cF:=(Tk.at_ R11.out.K).2.2.1
     have KS3:=hid (fun W=>spot_any t.f 3 W (by omega) (by omega))
     have φ0:=Int.emod_nonneg t.f (show(3:Int)≠0 by omega)
     have φ1:=Int.emod_lt_of_pos t.f (show(0:Int)<3 by omega)
     obtain⟨φ,hφ⟩: ∃φ,φ=t.f%3:=⟨_,rfl⟩
     rw[<-hφ] at KS3 φ0 φ1
     clear hφ
     have hφ:φ=0\/φ=1\/φ=2:=by omega
     clear φ0 φ1
     rcases hφ with rfl|rfl|rfl
     ·obtain⟨md,hmd⟩: ∃md,md=deM m bs:=⟨_,rfl⟩
      obtain⟨yd,hyd⟩: ∃yd,yd=deY m bs:=⟨_,rfl⟩
      have MK:=deM_ok HMK.out bs
      rw[<-hmd] at MK
      have MK:=hid MK
      have MG:=hid (show goodM md=true from by rw[hmd];exact DMG.out)
      have YDL:=hid (show yd.length=80 from by rw[hyd];exact DYL.out)
      have KDe:=hid (fun W (h:Sr w W gE gD gK gM g v gT s2 s2 m m t A3 c3 bs)=>show Calls Tryd.prog 12 #[.agg m.ag,.slice A3 15 c3] W (fun e w'=> ∃A7 c7,e= .returned (.tuple #[.agg md.ag,.slice A7 80 c7,.int .i64 0])/\Own w' W.heap.size A7 c7 yd/\Below W.heap.size W w') from by
       have h1:=decode_any m HMK.out A3 c3 15 bs W (TT.out.1.below h.T.bel) (TT.out.2.1.below h.T.bel) (TT.out.2.2.below h.T.bel) h.P.reads B15.out C15.out BYT.out
       unfold NewM at h1
       rw[DE0.out,<-hmd,<-hyd,YDL.out] at h1
       exact h1)
      have KDd:=hid (fun W (h:Sr w W gE gD gK gM g v gT s2 s2 m m t A3 c3 bs)=>show Calls Tryd.prog 18 #[.pointer (some ⟨gK,0,none⟩),.agg #[.int .i64 3,.int .i64 v,.bool false,.slice none 0 0,.slice A3 15 c3]] W (fun x w'=> ∃A8 c8,x= .returned (.agg (ansC 0 v none 0 0 A8 80 c8))/\Own w' W.heap.size A8 c8 yd/\Dd w' gK gM 1 (D1 v g)/\LB w' g s2 md/\W.grownBy w' (some g)) from by
       have h1:=deskDo_dec gK gM 1 (D1 v g) g s2 m ⟨3,v,false,none,0,0,A3,15,c3⟩ bs W (TT.out.1.below h.T.bel) (TT.out.2.1.below h.T.bel) (TT.out.2.2.below h.T.bel) h.D h.L K2.out HMK.out (by show-9223372036854775808<=v/\v<=9223372036854775807;omega) (D1_has v g) (D1_at v g) rfl (Blk.lt h.L) ⟨Blk.lt h.D.K,Dd.lt h.D⟩ h.P.reads B15.out C15.out BYT.out DE0.out
       rw[<-hmd,<-hyd,YDL.out] at h1
       exact h1)
      clear hmd hyd
      go_wp2_with (first
       |(refine wpList_loadE rfl (.tmp 10) rfl _ s2 rfl X10.out K2.out ?_)
       |(refine wpList_storeE rfl (.tmp 6) (.tmp 67) rfl _ s s2 rfl rfl R10.out.T.E HF.out.k K2.out ?_;rw[<-HV11.out];clear HV11)
       |(go_at_call 21;(with_reducible refine(KS3.out _).mono ?_);rintro e w' ⟨rfl,rfl⟩)
       |(refine wpList_loadM rfl (.tmp 7) rfl _ m rfl R11.out.T.D HMK.out ?_))
      with_reducible refine(KDe.out V11 R11.out).mono ?_
      rintro e w12 ⟨A7,c7,rfl,hO,hB⟩
      have R12:=hid (R11.out.below hB)
      have BB:=below_stored w12 (.cells Tryd.zeroCells30 30) md.ag
      have R13:=hid (R12.out.below BB)
      have M13:=hid (MB.setRow (newzero w12) md)
      have O13:=hid (hO.below BB)
      have LV:=hid (show g<V11.heap.size/\V11.heap.size<=w12.heap.size from⟨Blk.lt R11.out.L,hB.size⟩)
      obtain⟨gB,hgB⟩: ∃gB,gB=w12.heap.size:=⟨_,rfl⟩
      obtain⟨V13,hV13⟩: ∃V13,V13=(w12.alloc (.cells Tryd.zeroCells30 30)).setRow w12.heap.size md.ag:=⟨_,rfl⟩
      rw[<-hV13] at R13 M13 O13
      have HV13:=hid hV13
      clear hV13 BB hO hB cF
      go_wp2_with (first
       |(refine wpList_storeM rfl (.tmp 15) (.tmp 76) rfl _ zeroM md rfl rfl (newzero w12) zeroM_ok MK.out ?_;rw[<-HV13.out];clear HV13))
      with_reducible refine(KDd.out V13 R13.out).mono ?_
      rintro e w14 ⟨A8,c8,rfl,hY,hD,hL,hG⟩
      have R14:=hid (R13.out.of hG HGW.out LOW.out.2.2 hD hL)
      have M14:=hid (show MB w14 w12.heap.size md from(hG.block w12.heap.size (Blk.lt M13.out) (fun x=>by have:=Option.some.inj x;have:=LV.out;omega)).trans M13.out)
      have O14:=hid (O13.out.kept hG (fun a ha x=>by have:=(O13.out.lt a ha).1;have:=Option.some.inj x;have:=LV.out;omega))
      have KSb:=hid (show Calls Tryd.prog 20 #[.agg (ansC 0 v none 0 0 A8 80 c8),.agg #[.int .i64 0,.int .i64 v,.slice none 0 0,.slice A7 80 c7]] w14 (fun e w'=>e= .returned (.bool true)/\Below w14.heap.size w14 w') from sameAns_yes 0 v none A8 none A7 0 0 80 c8 0 c7 [] yd w14 Rb.nil hY.reads Rb.nil O14.out.reads rfl YDL.out (by omega))
      clear hY hD hL hG KDd KDe R13 M13 O13 R12
      go_wp2_with fail
      with_reducible refine KSb.out.mono ?_
      rintro e w15 ⟨rfl,hB⟩
      have R15:=hid (R14.out.below hB)
      have M15:=hid (Blk.below' M14.out hB)
      clear hB R14 M14 O14 KSb
      have R16:=hid (R15.out.setD (m3:=md) LK.out HL.out)
      obtain⟨V16,hV16⟩: ∃V16,V16=w15.setRow gD md.ag:=⟨_,rfl⟩
      rw[<-hV16] at R16
      have HV16:=hid hV16
      clear hV16 hgB
      go_wp2_with (first
       |(refine wpList_loadM rfl (.tmp 15) rfl _ md rfl M15.out MK.out ?_)
       |(refine wpList_storeM rfl (.tmp 7) (.tmp 89) rfl _ m md rfl rfl R15.out.T.D HMK.out MK.out ?_;rw[<-HV16.out];clear HV16))
      go_roundw
      case rel=>exact⟨k+1,s2,md,by omega,by go_num,F2,MK,MG,hid ⟨R16.out.T,R16.out.D,R16.out.L⟩⟩
      case measure=>simp[intOf]<;>omega
     ·obtain⟨md,hmd⟩: ∃md,md=coM m:=⟨_,rfl⟩
      obtain⟨yd,hyd⟩: ∃yd,yd=coY m:=⟨_,rfl⟩
      have MK:=hid (show md.ok from by rw[hmd];exact coM_ok HMK.out)
      have MG:=hid (show goodM md=true from by rw[hmd];exact(coM_good HMG.out).1)
      have YDL:=hid (show yd.length=80 from by rw[hyd];exact(coM_good HMG.out).2)
      have KDe:=hid (fun W (h:Sr w W gE gD gK gM g v gT s2 s2 m m t A3 c3 bs)=>show Calls Tryd.prog 16 #[.agg m.ag] W (fun e w'=> ∃A7 c7,e= .returned (.tuple #[.agg md.ag,.slice A7 80 c7,.int .i64 0])/\Own w' W.heap.size A7 c7 yd/\Below W.heap.size W w') from by
       have h1:=erase_any m HMK.out W
       unfold NewM at h1
       rw[HMG.out,<-hmd,<-hyd,YDL.out] at h1
       exact h1)
      have KDd:=hid (fun W (h:Sr w W gE gD gK gM g v gT s2 s2 m m t A3 c3 bs)=>show Calls Tryd.prog 18 #[.pointer (some ⟨gK,0,none⟩),.agg #[.int .i64 4,.int .i64 v,.bool false,.slice none 0 0,.slice none 0 0]] W (fun x w'=> ∃A8 c8,x= .returned (.agg (ansC 0 v none 0 0 A8 80 c8))/\Own w' W.heap.size A8 c8 yd/\Dd w' gK gM 1 (D1 v g)/\LB w' g s2 md/\W.grownBy w' (some g)) from by
       have h1:=deskDo_era gK gM 1 (D1 v g) g s2 m ⟨4,v,false,none,0,0,none,0,0⟩ W h.D h.L K2.out HMK.out HMG.out (by show-9223372036854775808<=v/\v<=9223372036854775807;omega) (D1_has v g) (D1_at v g) rfl (Blk.lt h.L) ⟨Blk.lt h.D.K,Dd.lt h.D⟩
       rw[<-hmd,<-hyd] at h1
       exact h1)
      clear hmd hyd
      go_wp2_with (first
       |(refine wpList_loadE rfl (.tmp 10) rfl _ s2 rfl X10.out K2.out ?_)
       |(refine wpList_storeE rfl (.tmp 6) (.tmp 67) rfl _ s s2 rfl rfl R10.out.T.E HF.out.k K2.out ?_;rw[<-HV11.out];clear HV11)
       |(go_at_call 21;(with_reducible refine(KS3.out _).mono ?_);rintro e w' ⟨rfl,rfl⟩)
       |(refine wpList_loadM rfl (.tmp 7) rfl _ m rfl R11.out.T.D HMK.out ?_))
      with_reducible refine(KDe.out V11 R11.out).mono ?_
      rintro e w12 ⟨A7,c7,rfl,hO,hB⟩
      have R12:=hid (R11.out.below hB)
      have BB:=below_stored w12 (.cells Tryd.zeroCells30 30) md.ag
      have R13:=hid (R12.out.below BB)
      have M13:=hid (MB.setRow (newzero w12) md)
      have O13:=hid (hO.below BB)
      have LV:=hid (show g<V11.heap.size/\V11.heap.size<=w12.heap.size from⟨Blk.lt R11.out.L,hB.size⟩)
      obtain⟨gB,hgB⟩: ∃gB,gB=w12.heap.size:=⟨_,rfl⟩
      obtain⟨V13,hV13⟩: ∃V13,V13=(w12.alloc (.cells Tryd.zeroCells30 30)).setRow w12.heap.size md.ag:=⟨_,rfl⟩
      rw[<-hV13] at R13 M13 O13
      have HV13:=hid hV13
      clear hV13 BB hO hB cF
      go_wp2_with (first
       |(refine wpList_storeM rfl (.tmp 18) (.tmp 93) rfl _ zeroM md rfl rfl (newzero w12) zeroM_ok MK.out ?_;rw[<-HV13.out];clear HV13))
      with_reducible refine(KDd.out V13 R13.out).mono ?_
      rintro e w14 ⟨A8,c8,rfl,hY,hD,hL,hG⟩
      have R14:=hid (R13.out.of hG HGW.out LOW.out.2.2 hD hL)
      have M14:=hid (show MB w14 w12.heap.size md from(hG.block w12.heap.size (Blk.lt M13.out) (fun x=>by have:=Option.some.inj x;have:=LV.out;omega)).trans M13.out)
      have O14:=hid (O13.out.kept hG (fun a ha x=>by have:=(O13.out.lt a ha).1;have:=Option.some.inj x;have:=LV.out;omega))
      have KSb:=hid (show Calls Tryd.prog 20 #[.agg (ansC 0 v none 0 0 A8 80 c8),.agg #[.int .i64 0,.int .i64 v,.slice none 0 0,.slice A7 80 c7]] w14 (fun e w'=>e= .returned (.bool true)/\Below w14.heap.size w14 w') from sameAns_yes 0 v none A8 none A7 0 0 80 c8 0 c7 [] yd w14 Rb.nil hY.reads Rb.nil O14.out.reads rfl YDL.out (by omega))
      clear hY hD hL hG KDd KDe R13 M13 O13 R12
      go_wp2_with fail
      with_reducible refine KSb.out.mono ?_
      rintro e w15 ⟨rfl,hB⟩
      have R15:=hid (R14.out.below hB)
      have M15:=hid (Blk.below' M14.out hB)
      clear hB R14 M14 O14 KSb
      have R16:=hid (R15.out.setD (m3:=md) LK.out HL.out)
      obtain⟨V16,hV16⟩: ∃V16,V16=w15.setRow gD md.ag:=⟨_,rfl⟩
      rw[<-hV16] at R16
      have HV16:=hid hV16
      clear hV16 hgB
      go_wp2_with (first
       |(refine wpList_loadM rfl (.tmp 18) rfl _ md rfl M15.out MK.out ?_)
       |(refine wpList_storeM rfl (.tmp 7) (.tmp 105) rfl _ m md rfl rfl R15.out.T.D HMK.out MK.out ?_;rw[<-HV16.out];clear HV16))
      go_roundw
      case rel=>exact⟨k+1,s2,md,by omega,by go_num,F2,MK,MG,hid ⟨R16.out.T,R16.out.D,R16.out.L⟩⟩
      case measure=>simp[intOf]<;>omega
     ·obtain⟨md,hmd⟩: ∃md,md=coM m:=⟨_,rfl⟩
      obtain⟨yd,hyd⟩: ∃yd,yd=coY m:=⟨_,rfl⟩
      have MK:=hid (show md.ok from by rw[hmd];exact coM_ok HMK.out)
      have MG:=hid (show goodM md=true from by rw[hmd];exact(coM_good HMG.out).1)
      have YDL:=hid (show yd.length=80 from by rw[hyd];exact(coM_good HMG.out).2)
      have KDe:=hid (fun W (h:Sr w W gE gD gK gM g v gT s2 s2 m m t A3 c3 bs)=>show Calls Tryd.prog 16 #[.agg m.ag] W (fun e w'=> ∃A7 c7,e= .returned (.tuple #[.agg md.ag,.slice A7 80 c7,.int .i64 0])/\Own w' W.heap.size A7 c7 yd/\Below W.heap.size W w') from by
       have h1:=erase_any m HMK.out W
       unfold NewM at h1
       rw[HMG.out,<-hmd,<-hyd,YDL.out] at h1
       exact h1)
      have KDd:=hid (fun W (h:Sr w W gE gD gK gM g v gT s2 s2 m m t A3 c3 bs)=>show Calls Tryd.prog 18 #[.pointer (some ⟨gK,0,none⟩),.agg #[.int .i64 4,.int .i64 v,.bool false,.slice none 0 0,.slice none 0 0]] W (fun x w'=> ∃A8 c8,x= .returned (.agg (ansC 0 v none 0 0 A8 80 c8))/\Own w' W.heap.size A8 c8 yd/\Dd w' gK gM 1 (D1 v g)/\LB w' g s2 md/\W.grownBy w' (some g)) from by
       have h1:=deskDo_era gK gM 1 (D1 v g) g s2 m ⟨4,v,false,none,0,0,none,0,0⟩ W h.D h.L K2.out HMK.out HMG.out (by show-9223372036854775808<=v/\v<=9223372036854775807;omega) (D1_has v g) (D1_at v g) rfl (Blk.lt h.L) ⟨Blk.lt h.D.K,Dd.lt h.D⟩
       rw[<-hmd,<-hyd] at h1
       exact h1)
      clear hmd hyd
      go_wp2_with (first
       |(refine wpList_loadE rfl (.tmp 10) rfl _ s2 rfl X10.out K2.out ?_)
       |(refine wpList_storeE rfl (.tmp 6) (.tmp 67) rfl _ s s2 rfl rfl R10.out.T.E HF.out.k K2.out ?_;rw[<-HV11.out];clear HV11)
       |(go_at_call 21;(with_reducible refine(KS3.out _).mono ?_);rintro e w' ⟨rfl,rfl⟩)
       |(refine wpList_loadM rfl (.tmp 7) rfl _ m rfl R11.out.T.D HMK.out ?_))
      with_reducible refine(KDe.out V11 R11.out).mono ?_
      rintro e w12 ⟨A7,c7,rfl,hO,hB⟩
      have R12:=hid (R11.out.below hB)
      have BB:=below_stored w12 (.cells Tryd.zeroCells30 30) md.ag
      have R13:=hid (R12.out.below BB)
      have M13:=hid (MB.setRow (newzero w12) md)
      have O13:=hid (hO.below BB)
      have LV:=hid (show g<V11.heap.size/\V11.heap.size<=w12.heap.size from⟨Blk.lt R11.out.L,hB.size⟩)
      obtain⟨gB,hgB⟩: ∃gB,gB=w12.heap.size:=⟨_,rfl⟩
      obtain⟨V13,hV13⟩: ∃V13,V13=(w12.alloc (.cells Tryd.zeroCells30 30)).setRow w12.heap.size md.ag:=⟨_,rfl⟩
      rw[<-hV13] at R13 M13 O13
      have HV13:=hid hV13
      clear hV13 BB hO hB cF
      go_wp2_with (first
       |(refine wpList_storeM rfl (.tmp 18) (.tmp 93) rfl _ zeroM md rfl rfl (newzero w12) zeroM_ok MK.out ?_;rw[<-HV13.out];clear HV13))
      with_reducible refine(KDd.out V13 R13.out).mono ?_
      rintro e w14 ⟨A8,c8,rfl,hY,hD,hL,hG⟩
      have R14:=hid (R13.out.of hG HGW.out LOW.out.2.2 hD hL)
      have M14:=hid (show MB w14 w12.heap.size md from(hG.block w12.heap.size (Blk.lt M13.out) (fun x=>by have:=Option.some.inj x;have:=LV.out;omega)).trans M13.out)
      have O14:=hid (O13.out.kept hG (fun a ha x=>by have:=(O13.out.lt a ha).1;have:=Option.some.inj x;have:=LV.out;omega))
      have KSb:=hid (show Calls Tryd.prog 20 #[.agg (ansC 0 v none 0 0 A8 80 c8),.agg #[.int .i64 0,.int .i64 v,.slice none 0 0,.slice A7 80 c7]] w14 (fun e w'=>e= .returned (.bool true)/\Below w14.heap.size w14 w') from sameAns_yes 0 v none A8 none A7 0 0 80 c8 0 c7 [] yd w14 Rb.nil hY.reads Rb.nil O14.out.reads rfl YDL.out (by omega))
      clear hY hD hL hG KDd KDe R13 M13 O13 R12
      go_wp2_with fail
      with_reducible refine KSb.out.mono ?_
      rintro e w15 ⟨rfl,hB⟩
      have R15:=hid (R14.out.below hB)
      have M15:=hid (Blk.below' M14.out hB)
      clear hB R14 M14 O14 KSb
      have R16:=hid (R15.out.setD (m3:=md) LK.out HL.out)
      obtain⟨V16,hV16⟩: ∃V16,V16=w15.setRow gD md.ag:=⟨_,rfl⟩
      rw[<-hV16] at R16
      have HV16:=hid hV16
      clear hV16 hgB
      go_wp2_with (first
       |(refine wpList_loadM rfl (.tmp 18) rfl _ md rfl M15.out MK.out ?_)
       |(refine wpList_storeM rfl (.tmp 7) (.tmp 105) rfl _ m md rfl rfl R15.out.T.D HMK.out MK.out ?_;rw[<-HV16.out];clear HV16))
      go_roundw
      case rel=>exact⟨k+1,s2,md,by omega,by go_num,F2,MK,MG,hid ⟨R16.out.T,R16.out.D,R16.out.L⟩⟩
      case measure=>simp[intOf]<;>omega
  ·obtain rfl:k=N:=by omega
   have b1:decide ((k:Int)<k)=false:=by simp
   go_wp2_with fail
   refine(topalive_any wr (TT.out.1.below HT.out.T.bel) (TT.out.2.1.below HT.out.T.bel) (TT.out.2.2.below HT.out.T.bel)).mono ?_
   rintro e w4 ⟨rfl,hB⟩
   have I4:=hid (HT.out.below hB)
   have KC:=hid (deskDo_close gK gM 1 (D1 v g) g s m ⟨5,v,false,none,0,0,none,0,0⟩ w4 I4.out.D I4.out.L HF.out.k HMK.out (by show-9223372036854775808<=v/\v<=9223372036854775807;omega) (D1_has v g) (D1_at v g) rfl ⟨Blk.lt I4.out.D.K,Dd.lt I4.out.D⟩)
   have hfld: ∀(w:World),(Instr.field 58 (.agg (ansC 0 v none 0 0 none 0 0)) 0).run Tryd.prog w= .ok (.int .i64 0) w:=fun _=>by kernel_rfl
   have DZ:=hid (D1_del v g)
   clear hB HT
   go_wp2_with fail
   refine KC.out.mono ?_
   rintro x w5 ⟨rfl,hDD,hGG⟩
   have KMn:=deskMany_any gK gM 1 _ w5 hDD
   rw[DZ.out] at KMn
   have KMn:=hid KMn
   have BF:=hid (show Below w.heap.size w w5 from⟨hGG.os.trans I4.out.T.bel.os,hGG.tape.trans I4.out.T.bel.tape,hGG.output.trans I4.out.T.bel.output,Nat.le_trans I4.out.T.bel.size hGG.size,fun i hi=>(hGG.block i (Nat.lt_of_lt_of_le hi I4.out.T.bel.size) (fun x=>by have:=Option.some.inj x;have:=HG.out;omega)).trans (I4.out.T.bel.block i hi)⟩)
   clear hDD hGG KC
   go_wp2_with (go_at_call 22;(with_reducible refine KMn.out.mono ?_);rintro e w' ⟨rfl,rfl⟩)
   go_ret
   exact⟨rfl,BF.out⟩
end Go.Proofs.YthoiikkjjaldnaaDoor
