/- Texts that the law rests on, laid together: WalkW, SearW, FewW. -/
import Derived.Test.YthoiikkjjaldnaaDoorZaeb554
import Derived.Test.YthoiikkjjaldnaaDoorZ5940b7
import Derived.Test.YthoiikkjjaldnaaDoorZ428645
import Derived.Deep.RegionHeld3
set_option maxHeartbeats 8000000
namespace Go.Proofs.YthoiikkjjaldnaaDoor
set_option linter.unusedVariables false
set_option linter.unusedSimpArgs false
set_option maxRecDepth 100000
open Go.RowKit
def bestFn (g gd:Nat):Value:= .func (.func 96) #[] #[.pointer (some ⟨gd,0,none⟩),.pointer (some ⟨g,0,none⟩),.pointer (some ⟨g+2,0,none⟩),.pointer (some ⟨g+3,0,none⟩),.pointer (some ⟨g+4,0,none⟩),.pointer (some ⟨g+1,0,none⟩)]
def in64 (s:Bst):Prop:=(-9223372036854775808<=s.c/\s.c<=9223372036854775807)/\ -9223372036854775808<=s.e/\s.e<=9223372036854775807
def cellN (w:World) (p:Addr):Nat:=match w.cell? p with
 |some v=>(intOf v).toNat
 |none=>0
theorem cellN_of {w:World} {p:Addr} {x:Int} (h:w.cell? p=some (.int .i64 x)):cellN w p=x.toNat:=by unfold cellN;rw[h];rfl
theorem fewX_len {now:List Int} (h:now.length=4) (t p:Nat):(fewX now t p).length=4:=by unfold fewX;rw[List.length_set];exact h
theorem fewX_at {now:List Int} (h:now.length=4) {t:Nat} (ht:t<4) (p:Nat):(fewX now t p).getD t 0=p:=by unfold fewX;rw[get_set_same _ _ _ (by omega)]
theorem fewX_set (now:List Int) (t p q:Nat):(fewX now t p).set t (q:Int)=fewX now t q:=by unfold fewX;rw[List.set_set]
theorem fewWalk_any (g gd gt gn gq c t:Nat) (A:Option Addr) (L d ring now:List Int) (s0:Bst) (w:World) (S:Sst g gd A c gt L d s0 w) (dl:d.length=40) (dw:W64 d) (hT:Tbl L ring 40 0) (hs:Ix s0.at_) (h64:in64 s0)
 (hn:IB w gn 72 now) (hq:Blk w gq 3 #[.int .i64 (t:Nat)]) (ln:gn<g) (lq:gq<g) (hx:Ix now) (ht:t<4):
 Calls Tryd.prog 87 #[bestFn g gd,.pointer (some ⟨gn,0,none⟩),.pointer (some ⟨gq,0,none⟩)] w (fun e w'=>e= .returned (.tuple #[])/\Sst g gd A c gt L d ((fewL now t 10).foldl (bstS d ring) s0) w'/\Onl g w w'):=by
 have KB:=hid (fun W x s (S:Sst g gd A c gt L d s W) (hx:Ix x) (hs:Ix s.at_) (h64:in64 s)=>best_any g gd gt c A L d ring x s W S dl dw hT hx hs.1 h64)
 have LS:=hid S.lt
 have HS:=hid hs
 have H64:=hid h64
 have HX:=hid hx
 have HN:=hid hn
 have HQ:=hid hq
 have S0:=hid S
 have KX:=hid hx.1
 have LW:=hid (show w.heap.size<(w.alloc (.cells (agi Z4) 72)).heap.size by simp)
 have Z0:=hid (show IB ((w.alloc (.cells (agi Z4) 72)).setRow w.heap.size (agi now)) w.heap.size 72 now from IB.setRow (IB.new w _ Z4) now)
 have S1:=hid ((S.alloc (.cells (agi Z4) 72)).rowFar (b:=w.heap.size) S.lt (agi now))
 have O1:=hid (show Onl g w ((w.alloc (.cells (agi Z4) 72)).setRow w.heap.size (agi now)) from⟨below_setRow ((Below.refl _ _).alloc (by have:=S.lt;omega) _) (by have:=S.lt;omega) _,fun j k1 k2=>(setRow_other _ _ j _ (by omega)).trans (Below.heap_alloc w _ j k2)⟩)
 obtain⟨w1,hw1⟩: ∃w1,w1=(w.alloc (.cells (agi Z4) 72)).setRow w.heap.size (agi now):=⟨_,rfl⟩
 rw[<-hw1] at Z0 S1 O1
 rw[show agi Z4= #[.int .i64 0,.int .i64 0,.int .i64 0,.int .i64 0] from rfl] at hw1
 have HW1:=hid hw1
 have NQ:=hid (show Blk w1 gq 3 #[.int .i64 (t:Nat)] from O1.out.blk hq (.inl lq))
 have cq:w1.cell? ⟨gq,0,none⟩=some (.int .i64 (t:Nat)):=Blk.cell NQ.out 0
 have ct:=IB.cell Z0.out t (by rw[hx.1];exact ht)
 have ft:=Blk.frozen Z0.out t
 have t4:(t:Int)<4:=by omega
 have t0:(0:Int)<=t:=by omega
 have HLQ:=hid lq
 clear S dl dw hT hs h64 hx hn hq hw1
 unfold bestFn
 have Z2:=hid (show IB (w1.setCell ⟨w.heap.size,t,none⟩ (.int .i64 0)) w.heap.size 72 (fewX now t 0) from IB.set_ Z0.out t 0)
 have S2:=hid (S1.out.setFar (p:=⟨w.heap.size,t,none⟩) (by show g+5<=w.heap.size;exact LS.out) (.int .i64 0))
 have O2:=hid (show Onl g w (w1.setCell ⟨w.heap.size,t,none⟩ (.int .i64 0)) from⟨O1.out.b.setCell (by show g<=w.heap.size;have:=LS.out;omega) _,fun j k1 k2=>(Below.heap_setCell w1 _ _ j (by show j≠w.heap.size;omega)).trans (O1.out.keep j k1 k2)⟩)
 go_enter Tryd.func87,Tryd.ntmps87
 go_wp2_with (first
  |(refine wpList_loadI rfl 72 (.tmp 1) rfl _ 72 now 4 _ rfl HN.out Tryd.underlying72 rfl size4i KX.out ?_)
  |(refine wpList_storeI rfl 72 (.tmp 4) (.tmp 5) rfl _ 72 Z4 now 4 rfl rfl (IB.new w _ Z4) size4i rfl KX.out ?_;rw[<-HW1.out]))
 generalize w1.setCell ⟨w.heap.size,t,none⟩ (.int .i64 0)=w2 at Z2 S2 O2|-
 clear Z0 S1 O1 NQ cq ct ft S0
 go_loopw [] (fun wr=> ∃p:Nat,p<=10/\Hid (IB wr w.heap.size 72 (fewX now t p))/\Hid (Sst g gd A c gt L d ((fewL now t p).foldl (bstS d ring) s0) wr)/\Hid (Onl g w wr)) (fun wr=>10-cellN wr ⟨w.heap.size,t,none⟩)
 case atStart=>exact⟨0,by omega,Z2,S2,O2⟩
 case round=>
  clear Z2 S2 O2
  obtain⟨p,hp,HZ,HSt,HO⟩:=hrel
  have NQ:=hid (show Blk wr gq 3 #[.int .i64 (t:Nat)] from HO.out.blk HQ.out (.inl HLQ.out))
  have cq:wr.cell? ⟨gq,0,none⟩=some (.int .i64 (t:Nat)):=Blk.cell NQ.out 0
  have ct:=IB.cell HZ.out t (by rw[fewX_len KX.out];exact ht)
  rw[fewX_at KX.out ht] at ct
  have ft:=Blk.frozen HZ.out t
  have MW:=hid (cellN_of ct)
  by_cases hlt:p<10
  ·have KB1:=hid (KB.out wr (fewX now t p) ((fewL now t p).foldl (bstS d ring) s0) HSt.out (fewX_ix HX.out hlt) (bestL_ix HS.out (fewL_ix HX.out t (by omega))) (bestL_64 H64.out))
   have NF:=hid (show(fewL now t (p+1)).foldl (bstS d ring) s0=bstS d ring ((fewL now t p).foldl (bstS d ring) s0) (fewX now t p) by rw[fewL_snoc,List.foldl_append];rfl)
   have XL:=hid (fewX_len KX.out t p)
   have XS:=hid (fewX_set now t p (p+1))
   have XA:=hid (fewX_at KX.out ht p)
   generalize (fewL now t p).foldl (bstS d ring) s0=sn at*
   go_wp2_with (refine wpList_loadI rfl 72 (.tmp 4) rfl _ 72 (fewX now t p) 4 _ rfl HZ.out Tryd.underlying72 rfl size4i XL.out ?_)
   refine KB1.out.mono ?_
   rintro e w3 ⟨rfl,hS,hO⟩
   have N1:=hid (show Sst g gd A c gt L d ((fewL now t (p+1)).foldl (bstS d ring) s0) w3 by rw[NF.out];exact hS)
   have N2:=hid (HO.out.trans hO)
   have N3:=hid (show IB w3 w.heap.size 72 (fewX now t p) from hO.blk HZ.out (.inr LS.out))
   have N4:=hid (show Blk w3 gq 3 #[.int .i64 (t:Nat)] from hO.blk NQ.out (.inl HLQ.out))
   clear hS hO KB1 HSt HO HZ cq ct ft NQ
   have cq:w3.cell? ⟨gq,0,none⟩=some (.int .i64 (t:Nat)):=Blk.cell N4.out 0
   have ct:=IB.cell N3.out t (by rw[XL.out];exact ht)
   rw[XA.out] at ct
   have ft:=Blk.frozen N3.out t
   have M1:=hid (show IB (w3.setCell ⟨w.heap.size,t,none⟩ (.int .i64 ((p:Int)+1))) w.heap.size 72 (fewX now t (p+1)) from by rw[<-XS.out];exact IB.set_ N3.out t ((p+1:Nat):Int))
   have M2:=hid (N1.out.setFar (p:=⟨w.heap.size,t,none⟩) (by show g+5<=w.heap.size;exact LS.out) (.int .i64 ((p:Int)+1)))
   have M3:=hid (show Onl g w (w3.setCell ⟨w.heap.size,t,none⟩ (.int .i64 ((p:Int)+1))) from⟨N2.out.b.setCell (by show g<=w.heap.size;have:=LS.out;omega) _,fun j k1 k2=>(Below.heap_setCell w3 _ _ j (by show j≠w.heap.size;omega)).trans (N2.out.keep j k1 k2)⟩)
   have MC:=hid (show cellN (w3.setCell ⟨w.heap.size,t,none⟩ (.int .i64 ((p:Int)+1))) ⟨w.heap.size,t,none⟩=p+1 from by
    have h1:=IB.cell M1.out t (by rw[fewX_len KX.out];exact ht)
    rw[fewX_at KX.out ht] at h1
    exact cellN_of h1)
   go_wp2
   go_roundw
   case rel=>exact⟨p+1,by omega,M1,M2,M3⟩
   case measure=>rw[MC.out,MW.out];omega
  ·obtain rfl:p=10:=by omega
   go_wp2
   go_end0
   exact⟨rfl,HSt.out,HO.out⟩
end Go.Proofs.YthoiikkjjaldnaaDoor
namespace Go.Proofs.YthoiikkjjaldnaaDoor
set_option linter.unusedVariables false
set_option linter.unusedSimpArgs false
set_option maxRecDepth 100000
open Go.RowKit
def SeAns (d ring x:List Int) (w:World) (e:Ending) (w':World):Prop:=e= .returned (.tuple #[.agg (agi (seX d ring x)),.int .i64 (seS d ring x),.int .i64 (seErr d ring)])/\Below w.heap.size w w'
theorem SeAns.bad {d ring x:List Int} {w w':World} {er:Int} (he:seErr d ring=er) (h0:er≠0) (hB:Below w.heap.size w w'):SeAns d ring x w (.returned (.tuple #[.agg (agi Z4),.int .i64 0,.int .i64 er])) w':=
 ⟨by unfold seX seS;rw[he,if_neg h0,if_neg h0],hB⟩
theorem SeAns.good {d ring x:List Int} {w w':World} (he:seErr d ring=0) (hB:Below w.heap.size w w'):SeAns d ring x w (.returned (.tuple #[.agg (agi x),.int .i64 (sgnB d x 4),.int .i64 0])) w':=
 ⟨by unfold seX seS;rw[he,if_pos rfl,if_pos rfl],hB⟩
def okD (d:List Int):Bool:=d.all fun x=>decide (-1099511627776<=x/\x<=1099511627776)
theorem seErr_len {d ring:List Int} (h: ¬(d.length=40/\ring.length=40)):seErr d ring=1:=by unfold seErr;rw[if_neg h]
theorem seErr_ok {d ring:List Int} (h1:d.length=40) (h2:ring.length=40):seErr d ring=if okD d then 0 else 2:=by unfold seErr okD;rw[if_pos ⟨h1,h2⟩]
def seW (w1:World) (gt:Nat):World:=((((w1.alloc (.cells #[.pointer (some ⟨gt,0,none⟩)] 159)).alloc (.cells #[.int .i64 0,.int .i64 0,.int .i64 0,.int .i64 0] 72)).alloc (.cells #[.bool true] 4)).alloc (.cells #[.int .i64 0] 3)).alloc (.cells #[.int .i64 0] 3)
theorem seW_below (w1:World) (gt:Nat):Below w1.heap.size w1 (seW w1 gt):=by
 unfold seW
 exact(((((Below.refl _ _).alloc (Nat.le_refl _) _).alloc (by simp) _).alloc (by simp;omega) _).alloc (by simp;omega) _).alloc (by simp;omega) _
theorem sst_start (w1:World) (gd gt c:Nat) (A:Option Addr) (L d:List Int) (hD:Blk w1 gd 36 #[.slice A 40 c]) (hR:Rs w1 w1.heap.size A d) (hL:IB w1 gt 168 L):Sst w1.heap.size gd A c gt L d bst0 (seW w1 gt):=by
 have hb:=seW_below w1 gt
 have hT:=Blk.new w1 159 #[.pointer (some ⟨gt,0,none⟩)]
 have hX:=Blk.new (w1.alloc (.cells #[.pointer (some ⟨gt,0,none⟩)] 159)) 72 #[.int .i64 0,.int .i64 0,.int .i64 0,.int .i64 0]
 have hF:=Blk.new ((w1.alloc (.cells #[.pointer (some ⟨gt,0,none⟩)] 159)).alloc (.cells #[.int .i64 0,.int .i64 0,.int .i64 0,.int .i64 0] 72)) 4 #[.bool true]
 have hC:=Blk.new (((w1.alloc (.cells #[.pointer (some ⟨gt,0,none⟩)] 159)).alloc (.cells #[.int .i64 0,.int .i64 0,.int .i64 0,.int .i64 0] 72)).alloc (.cells #[.bool true] 4)) 3 #[.int .i64 0]
 have hE:=Blk.new ((((w1.alloc (.cells #[.pointer (some ⟨gt,0,none⟩)] 159)).alloc (.cells #[.int .i64 0,.int .i64 0,.int .i64 0,.int .i64 0] 72)).alloc (.cells #[.bool true] 4)).alloc (.cells #[.int .i64 0] 3)) 3 #[.int .i64 0]
 simp only[World.size_alloc] at hT hX hF hC hE
 exact⟨Blk.below' hD hb,hR.below hb,Blk.alloc (Blk.alloc (Blk.alloc (Blk.alloc hT _) _) _) _,Blk.below' hL hb,Blk.alloc (Blk.alloc (Blk.alloc hX _) _) _,Blk.alloc (Blk.alloc hF _) _,Blk.alloc hC _,hE,Blk.lt hD,Blk.lt hL⟩
theorem searchFew_any (A A2:Option Addr) (c c2 n1 n2:Nat) (d ring:List Int) (l:List (List Int)) (pw qw:Value) (w:World) (hd:Rs w w.heap.size A d) (hr:Rs w w.heap.size A2 ring) (l1:d.length=n1) (l2:ring.length=n2) (rw_:W64 ring) (hlx: ∀x∈l,Ix x)
 (KW:d.length=40->∀(g gd gt:Nat) (L:List Int) (s0:Bst) (W:World),Below w.heap.size w W->w.heap.size<=g->Sst g gd A c gt L d s0 W->Tbl L ring 40 0->Ix s0.at_->in64 s0->
   Calls Tryd.prog 87 #[bestFn g gd,pw,qw] W (fun e w'=>e= .returned (.tuple #[])/\Sst g gd A c gt L d (l.foldl (bstS d ring) s0) w'/\Onl g W w')):
 Calls Tryd.prog 86 #[.slice A n1 c,.slice A2 n2 c2,.func (.func 87) #[] #[pw,qw]] w (SeAns d ring (bestL d ring l).at_ w):=by
 have hR:=results_row3 (fn:=Tryd.f86) (p:=6) (q:=7) (r:=8) (ty:=72) rfl
 have FB:=hid (fun(er:Int) (he:seErr d ring=er) (h0:er≠0) w' (hB:Below w.heap.size w w')=>SeAns.bad (x:=(bestL d ring l).at_) he h0 hB)
 have B0:=hid (((Below.refl w.heap.size w).alloc (Nat.le_refl _) (.cells #[.slice A n1 c] 36)).alloc (by simp) (.cells (agi Z4) 72))
 have D0:=hid (Blk.alloc (Blk.new w 36 #[.slice A n1 c]) (.cells (agi Z4) 72))
 have Z0:=IB.new (w.alloc (.cells #[.slice A n1 c] 36)) 72 Z4
 simp only[World.size_alloc] at Z0
 have HB0:=hid Z0
 clear Z0
 have z4:agi Z4= #[.int .i64 0,.int .i64 0,.int .i64 0,.int .i64 0]:=rfl
 rw[z4] at B0 D0 HB0
 obtain⟨V,hV⟩: ∃V,V=(w.alloc (.cells #[.slice A n1 c] 36)).alloc (.cells #[.int .i64 0,.int .i64 0,.int .i64 0,.int .i64 0] 72):=⟨_,rfl⟩
 rw[<-hV] at B0 D0 HB0
 have HV:=hid hV
 have HD:=hid ((hd.below B0.out).more B0.out.size)
 have HR:=hid ((hr.below B0.out).more B0.out.size)
 have DL:=hid l1
 have RL:=hid l2
 have RW:=hid rw_
 have HLX:=hid hlx
 have HKW:=hid KW
 have cD:V.cell? ⟨w.heap.size,0,none⟩=some (.slice A n1 c):=Blk.cell D0.out 0
 rw[hV] at cD
 clear hV hd hr l1 l2 rw_ hlx KW z4
 have RB:=hid (IB.setRow HB0.out Z4)
 have BB:=hid (below_setRow B0.out (g:=w.heap.size+1) (by omega) (agi Z4))
 by_cases hl:n1=40
 rotate_left
 ·have HE:=hid (seErr_len (d:=d) (ring:=ring) (by have:=DL.out;omega))
  have d0:((n1:Int) !=40)=true:=by simp;omega
  have d1: ¬(n1:Int)=40:=by omega
  clear hl
  have X0:=HB0.out
  have X1:=RB.out
  have X2:=BB.out
  rw[HV.out] at X0 X1 X2
  have X0:=hid X0
  have X1:=hid X1
  have X2:=hid X2
  rename_i X0r X1r X2r
  clear X0r X1r X2r
  go_enter Tryd.func86,Tryd.ntmps86
  go_wp2_with (refine wpList_storeI rfl 72 (.tmp 6) (.tmp 24) rfl _ 72 Z4 Z4 4 rfl rfl X0.out size4i rfl rfl ?_)
  refine bodyPost_ret (v:=_) (hR _ _ _ 72 Z4 _ 4 rfl X1.out Tryd.underlying72 rfl size4i rfl) rfl ?_
  exact FB.out _ HE.out (by decide) _ X2.out
 subst hl
 by_cases hl2:n2=40
 rotate_left
 ·have HE:=hid (seErr_len (d:=d) (ring:=ring) (by have:=RL.out;omega))
  have d0:((n2:Int) !=40)=true:=by simp;omega
  have d1: ¬(n2:Int)=40:=by omega
  clear hl2
  have X0:=HB0.out
  have X1:=RB.out
  have X2:=BB.out
  rw[HV.out] at X0 X1 X2
  have X0:=hid X0
  have X1:=hid X1
  have X2:=hid X2
  rename_i X0r X1r X2r
  clear X0r X1r X2r
  go_enter Tryd.func86,Tryd.ntmps86
  go_wp2_with (refine wpList_storeI rfl 72 (.tmp 6) (.tmp 24) rfl _ 72 Z4 Z4 4 rfl rfl X0.out size4i rfl rfl ?_)
  refine bodyPost_ret (v:=_) (hR _ _ _ 72 Z4 _ 4 rfl X1.out Tryd.underlying72 rfl size4i rfl) rfl ?_
  exact FB.out _ HE.out (by decide) _ X2.out
 subst hl2
 have HE:=hid (seErr_ok DL.out RL.out)
 go_enter Tryd.func86,Tryd.ntmps86
 go_wp2
 rw[<-HV.out]
 clear cD
 go_loop [27] (fun iv=> ∃i:Nat,i<=40/\iv= .int .i64 i/\Hid (allTo (fun x=>decide (-1099511627776<=x/\x<=1099511627776)) d i)) (fun iv=>40-(intOf iv).toNat)
 case atStart=>exact⟨0,by omega,rfl,hid allTo.zero⟩
 case round=>
  obtain⟨i,hi,rfl,HY⟩:=hrel
  by_cases hlt:i<40
  ·obtain⟨ad,rfl,_,c0⟩:=HD.out.at_ (k:=i) (by rw[DL.out];exact hlt)
   obtain⟨x,hx⟩: ∃x,x=d.getD i 0:=⟨_,rfl⟩
   rw[<-hx] at c0
   by_cases hb:x< -1099511627776\/1099511627776<x
   ·have HE2:=hid (show seErr d ring=2 by rw[HE.out,show okD d=false from all_no (i:=i) (by rw[DL.out];exact hlt) (by rw[<-hx];simp;omega)];rfl)
    clear hx
    rcases hb with hb|hb
    ·have e1:decide (x< -1099511627776)=true:=by simpa using hb
     go_wp2_with (refine wpList_storeI rfl 72 (.tmp 6) (.tmp 37) rfl _ 72 Z4 Z4 4 rfl rfl HB0.out size4i rfl rfl ?_)
     refine bodyPost_ret (v:=_) (hR _ _ _ 72 Z4 _ 4 rfl RB.out Tryd.underlying72 rfl size4i rfl) rfl ?_
     exact FB.out _ HE2.out (by decide) _ BB.out
    ·have e1:decide (x< -1099511627776)=false:=by simp;omega
     have e3:decide (1099511627776<x)=true:=by simp;omega
     go_wp2_with (refine wpList_storeI rfl 72 (.tmp 6) (.tmp 37) rfl _ 72 Z4 Z4 4 rfl rfl HB0.out size4i rfl rfl ?_)
     refine bodyPost_ret (v:=_) (hR _ _ _ 72 Z4 _ 4 rfl RB.out Tryd.underlying72 rfl size4i rfl) rfl ?_
     exact FB.out _ HE2.out (by decide) _ BB.out
   ·have HN:=hid (HY.out.succ (by rw[<-hx];simp;omega))
    have e1:decide (x< -1099511627776)=false:=by simp;omega
    have e3:decide (1099511627776<x)=false:=by simp;omega
    clear hb hx
    go_wp2
    go_round
    case rel=>exact⟨i+1,by omega,by go_num,HN⟩
    case measure=>simp[intOf]<;>omega
  ·obtain rfl:i=40:=by omega
   have OK:=hid (show okD d=true from HY.out.all (by rw[DL.out];exact Nat.le_refl _))
   have HE2:=hid (show seErr d ring=0 by rw[HE.out,OK.out];rfl)
   clear HY HE hlt hi RB BB FB
   have KE:=hid (energies_any A2 c2 ring V HR.out RL.out RW.out)
   go_wp2_with fail
   refine KE.out.mono ?_
   rintro e w1 ⟨L,rfl,hI,hT,hB⟩
   have L1:=hid hI
   have T1:=hid hT
   have D1:=hid (Blk.below' D0.out hB)
   have Z1:=hid (Blk.below' HB0.out hB)
   have R1:=hid ((HD.out.below hB).more hB.size)
   have B1:=hid (B0.out.trans (hB.mono B0.out.size))
   have GT:=hid (Blk.lt hI)
   clear hI hT hB KE HR HD D0 HB0 B0
   have S2:=hid (sst_start w1 w.heap.size V.heap.size c A L d D1.out R1.out L1.out)
   have B2:=hid (B1.out.trans ((seW_below w1 V.heap.size).mono B1.out.size))
   have Z2:=hid (Blk.below' Z1.out (seW_below w1 V.heap.size))
   have LZ:=hid (Blk.lt Z1.out)
   have W5:=hid (show seW w1 V.heap.size=_ from rfl)
   have KW1:=hid (HKW.out DL.out w1.heap.size w.heap.size V.heap.size L bst0 (seW w1 V.heap.size) B2.out B1.out.size S2.out T1.out ix_Z4 ⟨⟨by decide,by decide⟩,⟨by decide,by decide⟩⟩)
   have IXB:=hid (bestL_ix (d:=d) (ring:=ring) (s:=bst0) ix_Z4 HLX.out)
   obtain⟨P,hP⟩: ∃P,P=SeAns d ring (bestL d ring l).at_ w:=⟨_,rfl⟩
   have FG:=hid (fun w' (hB:Below w.heap.size w w')=>show P (.returned (.tuple #[.agg (agi (bestL d ring l).at_),.int .i64 (sgnB d (bestL d ring l).at_ 4),.int .i64 0])) w' from by rw[hP];exact SeAns.good (x:=(bestL d ring l).at_) HE2.out hB)
   have HP:=hid hP
   clear hP
   have KSG:=hid (fun W (h:Rs W W.heap.size A d)=>signs_any A c d (bestL d ring l).at_ W h DL.out IXB.out)
   unfold bestL at FG KSG
   unfold bestFn seW at KW1
   generalize l.foldl (bstS d ring) bst0=sb at*
   clear D1 R1 L1 T1 Z1 B1 HKW HLX RW
   go_wp2_with fail
   refine KW1.out.mono ?_
   rintro e w2 ⟨rfl,hS,hO⟩
   have J3:IB w2 (w1.heap.size+1) 72 sb.at_:=hS.X
   have cD:w2.cell? ⟨w.heap.size,0,none⟩=some (.slice A 40 c):=Blk.cell hS.D 0
   have R3:=hid (show Rs w2.drew w2.drew.heap.size A d from hS.R.more (by have:=hS.lt;show w1.heap.size<=w2.heap.size;omega))
   have D3:=hid hS.D
   have Z3:=hid (show IB w2 (w.heap.size+1) 72 Z4 from hO.blk Z2.out (.inl LZ.out))
   have B3:=hid (show Below w.heap.size w w2 from B2.out.trans ⟨hO.b.os,hO.b.tape,hO.b.output,hO.b.size,fun k hk=>hO.b.block k (by have:=LZ.out;omega)⟩)
   clear hS hO KW1 S2 B2 Z2 W5
   have IXL:=IXB.out.1
   have KSG:=KSG.out
   have FG:=FG.out
   obtain⟨xs,hxs⟩: ∃xs,xs=sb.at_:=⟨_,rfl⟩
   rw[<-hxs] at J3 IXL KSG FG
   obtain⟨x0,x1,x2,x3,rfl⟩:=list4 IXL
   have J3:=hid J3
   generalize sgnB d [x0,x1,x2,x3] 4=sv at*
   have KS1:=hid (show Calls Tryd.prog 88 #[.slice A 40 c,.agg #[.int .i64 x0,.int .i64 x1,.int .i64 x2,.int .i64 x3]] w2.drew (fun e w'=>e= .returned (.int .i64 sv)/\Below w2.drew.heap.size w2.drew w') from KSG w2.drew R3.out)
   have FG:=hid FG
   rename_i J3r KSGr FGr
   have LG: ¬w.heap.size+1=w1.heap.size+1:=by have:=LZ.out;omega
   have LG2: ¬w1.heap.size+1=w.heap.size+1:=by have:=LZ.out;omega
   have LG5: ¬w.heap.size=w1.heap.size:=by have:=LZ.out;omega
   have LG6: ¬w1.heap.size=w.heap.size:=by have:=LZ.out;omega
   have LG3: ¬w.heap.size=w.heap.size+1:=by omega
   have LG4: ¬w.heap.size=w1.heap.size+1:=by have:=LZ.out;omega
   have J3':=J3.out
   have k0:World.cell? w2 ⟨w1.heap.size+1,0,none⟩=some (.int .i64 x0):=IB.cell J3' 0 (by first|decide|simp);have k1:World.cell? w2 ⟨w1.heap.size+1,1,none⟩=some (.int .i64 x1):=IB.cell J3' 1 (by first|decide|simp);have k2:World.cell? w2 ⟨w1.heap.size+1,2,none⟩=some (.int .i64 x2):=IB.cell J3' 2 (by first|decide|simp);have k3:World.cell? w2 ⟨w1.heap.size+1,3,none⟩=some (.int .i64 x3):=IB.cell J3' 3 (by first|decide|simp)
   clear J3' KSG IXL hxs IXB OK
   go_wp2
   go_region_held3 (fun w'=>w'.cell? ⟨w1.heap.size+1,0,none⟩=some (.int .i64 x0)/\w'.cell? ⟨w1.heap.size+1,1,none⟩=some (.int .i64 x1)/\w'.cell? ⟨w1.heap.size+1,2,none⟩=some (.int .i64 x2)/\w'.cell? ⟨w1.heap.size+1,3,none⟩=some (.int .i64 x3)/\w'.cell? ⟨w.heap.size,0,none⟩=some (.slice A 40 c)) (go_keep) (first
    |(go_at_call 88;(with_reducible refine KS1.out.mono ?_);rintro e w3 ⟨rfl,hB⟩;have J4:IB w3 (w1.heap.size+1) 72 [x0,x1,x2,x3]:=Blk.below' (Blk.drew J3.out) hB;have cD4:w3.cell? ⟨w.heap.size,0,none⟩=some (.slice A 40 c):=Blk.cell (Blk.below' (Blk.drew D3.out) hB) 0;have Z4':IB w3 (w.heap.size+1) 72 Z4:=Blk.below' (Blk.drew Z3.out) hB;have B4:=hid (show Below w.heap.size w w3 from B3.out.drew.trans (hB.mono B3.out.size));have l0:World.cell? w3 ⟨w1.heap.size+1,0,none⟩=some (.int .i64 x0):=IB.cell J4 0 (by first|decide|simp);have l1:World.cell? w3 ⟨w1.heap.size+1,1,none⟩=some (.int .i64 x1):=IB.cell J4 1 (by first|decide|simp);have l2:World.cell? w3 ⟨w1.heap.size+1,2,none⟩=some (.int .i64 x2):=IB.cell J4 2 (by first|decide|simp);have l3:World.cell? w3 ⟨w1.heap.size+1,3,none⟩=some (.int .i64 x3):=IB.cell J4 3 (by first|decide|simp);have z0:World.cell? w3 ⟨w.heap.size+1,0,none⟩=some (.int .i64 0):=IB.cell Z4' 0 (by first|decide|simp);have z1:World.cell? w3 ⟨w.heap.size+1,1,none⟩=some (.int .i64 0):=IB.cell Z4' 1 (by first|decide|simp);have z2:World.cell? w3 ⟨w.heap.size+1,2,none⟩=some (.int .i64 0):=IB.cell Z4' 2 (by first|decide|simp);have z3:World.cell? w3 ⟨w.heap.size+1,3,none⟩=some (.int .i64 0):=IB.cell Z4' 3 (by first|decide|simp);have y0:World.frozen? w3 ⟨w.heap.size+1,0,none⟩=false:=Blk.frozen Z4' 0;have y1:World.frozen? w3 ⟨w.heap.size+1,1,none⟩=false:=Blk.frozen Z4' 1;have y2:World.frozen? w3 ⟨w.heap.size+1,2,none⟩=false:=Blk.frozen Z4' 2;have y3:World.frozen? w3 ⟨w.heap.size+1,3,none⟩=false:=Blk.frozen Z4' 3;have J4:=hid J4;have Z5:=hid Z4';clear hB Z4'))
   rename_i hHeldZ
   clear hHeldZ
   clear k0 k1 k2 k3 l0 l1 l2 l3 z0 z1 z2 z3 y0 y1 y2 y3
   simp only[Exit.then]
   have RF:=hid (show IB ((((w3.setCell ⟨w.heap.size+1,0,none⟩ (.int .i64 x0)).setCell ⟨w.heap.size+1,1,none⟩ (.int .i64 x1)).setCell ⟨w.heap.size+1,2,none⟩ (.int .i64 x2)).setCell ⟨w.heap.size+1,3,none⟩ (.int .i64 x3)) (w.heap.size+1) 72 [x0,x1,x2,x3] from IB.set_ (IB.set_ (IB.set_ (IB.set_ Z5.out 0 x0) 1 x1) 2 x2) 3 x3)
   have BF:=hid (show Below w.heap.size w ((((w3.setCell ⟨w.heap.size+1,0,none⟩ (.int .i64 x0)).setCell ⟨w.heap.size+1,1,none⟩ (.int .i64 x1)).setCell ⟨w.heap.size+1,2,none⟩ (.int .i64 x2)).setCell ⟨w.heap.size+1,3,none⟩ (.int .i64 x3)) from(((B4.out.setCell (p:=⟨w.heap.size+1,0,none⟩) (by show w.heap.size<=w.heap.size+1;omega) _).setCell (p:=⟨w.heap.size+1,1,none⟩) (by show w.heap.size<=w.heap.size+1;omega) _).setCell (p:=⟨w.heap.size+1,2,none⟩) (by show w.heap.size<=w.heap.size+1;omega) _).setCell (p:=⟨w.heap.size+1,3,none⟩) (by show w.heap.size<=w.heap.size+1;omega) _)
   go_wp2
   refine bodyPost_ret (v:=_) (hR _ _ _ 72 [x0,x1,x2,x3] _ 4 rfl RF.out Tryd.underlying72 rfl size4i rfl) rfl ?_
   have:=FG.out _ BF.out
   rw[HP.out] at this
   exact this
end Go.Proofs.YthoiikkjjaldnaaDoor
namespace Go.Proofs.YthoiikkjjaldnaaDoor
set_option linter.unusedVariables false
set_option linter.unusedSimpArgs false
set_option maxRecDepth 100000
open Go.RowKit
theorem pulsesFew_any (A A2:Option Addr) (c c2 n1 n2:Nat) (d ring:List Int) (w:World) (hd:Rs w w.heap.size A d) (hr:Rs w w.heap.size A2 ring) (l1:d.length=n1) (l2:ring.length=n2) (dw:W64 d) (rw_:W64 ring):
 Calls Tryd.prog 59 #[.slice A n1 c,.slice A2 n2 c2] w (SeAns d ring (fewN d ring 8) w):=by
 have hR:=results_row3 (fn:=Tryd.f59) (p:=4) (q:=5) (r:=6) (ty:=72) rfl
 have hmf: ∀(fn:Fn) (first cap:Array Value) (w:World),(Instr.makeFunc fn first cap).run Tryd.prog w= .ok (.func fn first cap) w:=fun _ _ _ _=>rfl
 have B0:=((Below.refl w.heap.size w).alloc (Nat.le_refl _) (.cells (agi Z4) 72)).alloc (by simp) (.cells (agi Z4) 72)
 have Z0:=Blk.alloc (IB.new w 72 Z4) (.cells (agi Z4) 72)
 have N0:=IB.new (w.alloc (.cells (agi Z4) 72)) 72 Z4
 simp only[World.size_alloc] at N0
 rw[show agi Z4= #[.int .i64 0,.int .i64 0,.int .i64 0,.int .i64 0] from rfl] at B0 Z0 N0
 obtain⟨V,hV⟩: ∃V,V=(w.alloc (.cells #[.int .i64 0,.int .i64 0,.int .i64 0,.int .i64 0] 72)).alloc (.cells #[.int .i64 0,.int .i64 0,.int .i64 0,.int .i64 0] 72):=⟨_,rfl⟩
 rw[<-hV] at B0 Z0 N0
 have HV:=hid hV
 have B0:=hid B0
 have Z0:=hid (show IB V w.heap.size 72 Z4 from Z0)
 have N0:=hid N0
 have HD:=hid hd
 have HR:=hid hr
 have KS:=hid (fun(W:World) (h1:Rs W W.heap.size A d) (h2:Rs W W.heap.size A2 ring) (now:List Int) (hn:Ix now) (t:Nat) (ht:t<4) (gn gq:Nat) (bn:IB W gn 72 now) (bq:Blk W gq 3 #[.int .i64 (t:Nat)])=>
  show Calls Tryd.prog 86 #[.slice A n1 c,.slice A2 n2 c2,.func (.func 87) #[] #[.pointer (some ⟨gn,0,none⟩),.pointer (some ⟨gq,0,none⟩)]] W (SeAns d ring (bestL d ring (fewL now t 10)).at_ W) from
  searchFew_any A A2 c c2 n1 n2 d ring (fewL now t 10) _ _ W h1 h2 l1 l2 rw_ (fewL_ix hn t (Nat.le_refl _)) (fun hl g gd gt L s0 W' hB hg S hT hs h64=>fewWalk_any g gd gt gn gq c t A L d ring now s0 W' S hl dw hT hs h64 (Blk.below' bn hB) (Blk.below' bq hB) (Nat.lt_of_lt_of_le (Blk.lt bn) hg) (Nat.lt_of_lt_of_le (Blk.lt bq) hg) hn ht))
 have KSG:=hid (fun(he:seErr d ring=0) (W:World) (h:Rs W W.heap.size A d) (x:List Int) (hx:Ix x)=>show Calls Tryd.prog 88 #[.slice A n1 c,.agg (agi x)] W (fun e w'=>e= .returned (.int .i64 (sgnB d x 4))/\Below W.heap.size W w') from by
  have h40:n1=40:=by
   rw[<-l1]
   refine Classical.byContradiction fun hc=>?_
   rw[seErr_len (fun h=>hc h.1)] at he
   cases he
  subst h40
  exact signs_any A c d x W h l1 hx)
 clear hd hr l1 l2 dw rw_ hV
 rename_i B0r Z0r N0r
 clear B0r Z0r N0r
 go_enter Tryd.func59,Tryd.ntmps59
 go_wp2
 rw[<-HV.out]
 go_loopw [12] (fun jv wr=> ∃j:Nat,j<=2/\jv= .int .i64 j/\Hid (IB wr w.heap.size 72 Z4)/\Hid (IB wr (w.heap.size+1) 72 (fewN d ring (4*j)))/\Hid (0<j->seErr d ring=0)/\Hid (Below w.heap.size w wr)) (fun jv _=>2-(intOf jv).toNat)
 case atStart=>exact⟨0,by omega,rfl,Z0,N0,hid (fun h=>by omega),B0⟩
 case round=>
  clear Z0 N0
  obtain⟨j,hj,rfl,HZ,HN,HE,HB⟩:=hrel
  obtain⟨wo,rfl⟩: ∃wo:World,wo=wr:=⟨_,rfl⟩
  by_cases hlt:j<2
  ·have hdec:decide ((j:Int)<2)=true:=by simp;omega
   go_wp2
   go_loopw [14] (fun tv wr=> ∃t:Nat,t<=4/\tv= .int .i64 t/\Hid (IB wr w.heap.size 72 Z4)/\Hid (IB wr (w.heap.size+1) 72 (fewN d ring (4*j+t)))/\Hid (0<j\/0<t->seErr d ring=0)/\Hid (Below w.heap.size w wr)) (fun tv _=>4-(intOf tv).toNat)
   case atStart=>exact⟨0,by omega,rfl,HZ,HN,hid (fun h=>HE.out (by omega)),HB⟩
   case round=>
    clear HZ HN HE HB
    obtain⟨t,ht,rfl,HZ,HN,HE,HB⟩:=hrel
    by_cases hlt4:t<4
    ·have hL:=(Below.refl wr.heap.size wr).alloc (Nat.le_refl _) (.cells #[.int .i64 (t:Nat)] 3)
     have Z1:=hid (show IB (wr.alloc (.cells #[.int .i64 (t:Nat)] 3)) w.heap.size 72 Z4 from Blk.below' HZ.out hL)
     have N1:=hid (show IB (wr.alloc (.cells #[.int .i64 (t:Nat)] 3)) (w.heap.size+1) 72 (fewN d ring (4*j+t)) from Blk.below' HN.out hL)
     have B1:=hid (HB.out.trans (hL.mono HB.out.size))
     have Q1:=hid (Blk.new wr 3 #[.int .i64 (t:Nat)])
     have NX:=hid (show fewN d ring (4*j+(t+1))=(bestL d ring (fewL (fewN d ring (4*j+t)) t 10)).at_ from by
      rw[show 4*j+(t+1)=(4*j+t)+1 by omega,fewN,show(4*j+t)%4=t by omega])
     have NL:=hid (fewN_ix d ring (4*j+(t+1)))
     have KS1:=hid (fun(W:World) (h1:Rs W W.heap.size A d) (h2:Rs W W.heap.size A2 ring) (gn gq:Nat) bn bq=>KS.out W h1 h2 (fewN d ring (4*j+t)) (fewN_ix d ring _) t hlt4 gn gq bn bq)
     unfold SeAns seX seS at KS1
     rw[<-NX.out] at KS1
     have hdt:decide ((t:Int)<4)=true:=by simp;omega
     obtain⟨nx,hnx⟩: ∃nx,nx=fewN d ring (4*j+(t+1)):=⟨_,rfl⟩
     rw[<-hnx] at KS1 NL
     have NXE:=hid hnx
     clear hnx NX
     have NI:=hid (fewN_ix d ring (4*j+t))
     generalize fewN d ring (4*j+t)=now at*
     have KS2:=hid (KS1.out _ ((HD.out.below B1.out).more B1.out.size) ((HR.out.below B1.out).more B1.out.size) (w.heap.size+1) wr.heap.size N1.out Q1.out)
     clear KS1 HZ HN HB
     go_wp2_with fail
     refine KS2.out.mono ?_
     rintro e w1 ⟨rfl,hB⟩
     have Z2:=hid (Blk.below' Z1.out hB)
     have N2:=hid (Blk.below' N1.out hB)
     have B2:=hid (B1.out.trans (hB.mono B1.out.size))
     clear hB KS2 Z1 N1 B1 Q1
     have hL:=(Below.refl w1.heap.size w1).alloc (Nat.le_refl _) (.cells (agi Z4) 72)
     by_cases he:seErr d ring=0
     ·rw[if_pos he]
      have HE2:=hid (show 0<j\/0<t+1->seErr d ring=0 from fun _=>he)
      have FIN:=hid (show fewN d ring 8=fewN d ring 8 from rfl)
      rw[if_pos he]
      rw[he]
      have X1:=hid (IB.setRow (IB.new w1 72 Z4) nx)
      have Z3:=hid (show IB ((w1.alloc (.cells (agi Z4) 72)).setRow w1.heap.size (agi nx)) w.heap.size 72 Z4 from Blk.rowFar (Blk.below' Z2.out hL) (by have:=Blk.lt Z2.out;omega))
      have N3:=hid (show IB ((w1.alloc (.cells (agi Z4) 72)).setRow w1.heap.size (agi nx)) (w.heap.size+1) 72 now from Blk.rowFar (Blk.below' N2.out hL) (by have:=Blk.lt N2.out;omega))
      have B3:=hid (below_setRow (B2.out.trans (hL.mono B2.out.size)) (g:=w1.heap.size) B2.out.size (agi nx))
      obtain⟨w3,hw3⟩: ∃w3,w3=(w1.alloc (.cells (agi Z4) 72)).setRow w1.heap.size (agi nx):=⟨_,rfl⟩
      rw[<-hw3] at X1 Z3 N3 B3
      rw[show agi Z4= #[.int .i64 0,.int .i64 0,.int .i64 0,.int .i64 0] from rfl] at hw3
      have HW3:=hid hw3
      have Z4':=hid (show IB (w3.setRow (w.heap.size+1) (agi nx)) w.heap.size 72 Z4 from Blk.rowFar Z3.out (by omega))
      have N4:=hid (show IB (w3.setRow (w.heap.size+1) (agi nx)) (w.heap.size+1) 72 nx from IB.setRow N3.out nx)
      have B4:=hid (below_setRow B3.out (g:=w.heap.size+1) (by omega) (agi nx))
      clear Z2 N2 B2 hw3 hL HE
      go_wp2_with (first
       |(refine wpList_storeI rfl 72 (.tmp 9) (.tmp 22) rfl _ 72 Z4 nx 4 rfl rfl (IB.new w1 _ Z4) size4i rfl NL.out.1 ?_;rw[<-HW3.out])
       |(refine wpList_loadI rfl 72 (.tmp 9) rfl _ 72 nx 4 _ rfl X1.out Tryd.underlying72 rfl size4i NL.out.1 ?_)
       |(refine wpList_storeI rfl 72 (.tmp 7) (.tmp 29) rfl _ 72 now nx 4 rfl rfl N3.out size4i NI.out.1 NL.out.1 ?_))
      go_roundw
      case rel=>exact⟨t+1,by omega,by go_num,Z4',by rw[<-NXE.out];exact N4,HE2,B4⟩
      case measure=>simp[intOf]<;>omega
     ·rw[if_neg he,if_neg he]
      have FB:=hid (fun w' (hB:Below w.heap.size w w')=>SeAns.bad (x:=fewN d ring 8) (d:=d) (ring:=ring) rfl he hB)
      obtain⟨er,her⟩: ∃er,er=seErr d ring:=⟨_,rfl⟩
      rw[<-her] at FB he|-
      have hne:(er !=0)=true:=by simpa using he
      clear her
      have Z3:=hid (show IB ((w1.alloc (.cells (agi Z4) 72)).setRow w1.heap.size (agi Z4)) w.heap.size 72 Z4 from Blk.rowFar (Blk.below' Z2.out hL) (by have:=Blk.lt Z2.out;omega))
      have B3:=hid (below_setRow (B2.out.trans (hL.mono B2.out.size)) (g:=w1.heap.size) B2.out.size (agi Z4))
      obtain⟨w3,hw3⟩: ∃w3,w3=(w1.alloc (.cells (agi Z4) 72)).setRow w1.heap.size (agi Z4):=⟨_,rfl⟩
      rw[<-hw3] at Z3 B3
      rw[show(w1.alloc (.cells (agi Z4) 72))=(w1.alloc (.cells #[.int .i64 0,.int .i64 0,.int .i64 0,.int .i64 0] 72)) from rfl] at hw3
      have HW3:=hid hw3
      have RF:=hid (IB.setRow Z3.out Z4)
      have BF:=hid (below_setRow B3.out (g:=w.heap.size) (Nat.le_refl _) (agi Z4))
      clear Z2 N2 B2 hw3 hL HE he NL NXE KSG KS
      go_wp2_with (first
       |(refine wpList_storeI rfl 72 (.tmp 9) (.tmp 22) rfl _ 72 Z4 Z4 4 rfl rfl (IB.new w1 _ Z4) size4i rfl rfl ?_;rw[<-HW3.out])
       |(refine wpList_storeI rfl 72 (.tmp 4) (.tmp 27) rfl _ 72 Z4 Z4 4 rfl rfl Z3.out size4i rfl rfl ?_))
      refine bodyPost_ret (v:=_) (hR _ _ _ 72 Z4 _ 4 rfl RF.out Tryd.underlying72 rfl size4i rfl) rfl ?_
      exact FB.out _ BF.out
    ·obtain rfl:t=4:=by omega
     have NN:=hid (show IB wr (w.heap.size+1) 72 (fewN d ring (4*(j+1))) from by rw[show 4*(j+1)=4*j+4 by omega];exact HN.out)
     have HE3:=hid (show 0<j+1->seErr d ring=0 from fun _=>HE.out (.inr (by omega)))
     go_wp2
     go_roundw
     case rel=>exact⟨j+1,by omega,by go_num,HZ,NN,HE3,HB⟩
     case measure=>simp[intOf]<;>omega
  ·obtain rfl:j=2:=by omega
   have E0:=hid (HE.out (by omega))
   have J3':=HN.out
   rw[show 4*2=8 from rfl] at J3'
   have IXN:=fewN_ix d ring 8
   have KSG1:=KSG.out E0.out wo.drew (show Rs wo.drew wo.drew.heap.size A d from(HD.out.below HB.out).more HB.out.size)
   obtain⟨P,hP⟩: ∃P,P=SeAns d ring (fewN d ring 8) w:=⟨_,rfl⟩
   have FG:=fun w' (hB:Below w.heap.size w w')=>show P (.returned (.tuple #[.agg (agi (fewN d ring 8)),.int .i64 (sgnB d (fewN d ring 8) 4),.int .i64 0])) w' from by rw[hP];exact SeAns.good (x:=fewN d ring 8) E0.out hB
   have HP:=hid hP
   clear hP KS KSG HE HN hlt hj
   have KSG2:=KSG1 (fewN d ring 8) IXN
   clear KSG1
   obtain⟨xs,hxs⟩: ∃xs,xs=fewN d ring 8:=⟨_,rfl⟩
   have HXS:=hid hxs
   rw[<-hxs] at J3' IXN KSG2 FG
   clear hxs
   obtain⟨x0,x1,x2,x3,rfl⟩:=list4 IXN.1
   have FG:=hid FG
   have J3:=hid J3'
   generalize sgnB d [x0,x1,x2,x3] 4=sv at*
   have KS1:=hid (show Calls Tryd.prog 88 #[.slice A n1 c,.agg #[.int .i64 x0,.int .i64 x1,.int .i64 x2,.int .i64 x3]] wo.drew (fun e w'=>e= .returned (.int .i64 sv)/\Below wo.drew.heap.size wo.drew w') from KSG2)
   rename_i FGr
   clear FGr KSG2 IXN
   have k0:World.cell? wo ⟨w.heap.size+1,0,none⟩=some (.int .i64 x0):=IB.cell J3' 0 (by first|decide|simp);have k1:World.cell? wo ⟨w.heap.size+1,1,none⟩=some (.int .i64 x1):=IB.cell J3' 1 (by first|decide|simp);have k2:World.cell? wo ⟨w.heap.size+1,2,none⟩=some (.int .i64 x2):=IB.cell J3' 2 (by first|decide|simp);have k3:World.cell? wo ⟨w.heap.size+1,3,none⟩=some (.int .i64 x3):=IB.cell J3' 3 (by first|decide|simp)
   clear J3'
   go_wp2
   go_region_held3 (fun w'=>w'.cell? ⟨w.heap.size+1,0,none⟩=some (.int .i64 x0)/\w'.cell? ⟨w.heap.size+1,1,none⟩=some (.int .i64 x1)/\w'.cell? ⟨w.heap.size+1,2,none⟩=some (.int .i64 x2)/\w'.cell? ⟨w.heap.size+1,3,none⟩=some (.int .i64 x3)) (go_keep) (first
    |(go_at_call 88;(with_reducible refine KS1.out.mono ?_);rintro e w3 ⟨rfl,hB⟩;have J4:IB w3 (w.heap.size+1) 72 [x0,x1,x2,x3]:=Blk.below' (Blk.drew J3.out) hB;have Z4':IB w3 w.heap.size 72 Z4:=Blk.below' (Blk.drew HZ.out) hB;have B4:=hid (show Below w.heap.size w w3 from HB.out.drew.trans (hB.mono HB.out.size));have l0:World.cell? w3 ⟨w.heap.size+1,0,none⟩=some (.int .i64 x0):=IB.cell J4 0 (by first|decide|simp);have l1:World.cell? w3 ⟨w.heap.size+1,1,none⟩=some (.int .i64 x1):=IB.cell J4 1 (by first|decide|simp);have l2:World.cell? w3 ⟨w.heap.size+1,2,none⟩=some (.int .i64 x2):=IB.cell J4 2 (by first|decide|simp);have l3:World.cell? w3 ⟨w.heap.size+1,3,none⟩=some (.int .i64 x3):=IB.cell J4 3 (by first|decide|simp);have z0:World.cell? w3 ⟨w.heap.size,0,none⟩=some (.int .i64 0):=IB.cell Z4' 0 (by first|decide|simp);have z1:World.cell? w3 ⟨w.heap.size,1,none⟩=some (.int .i64 0):=IB.cell Z4' 1 (by first|decide|simp);have z2:World.cell? w3 ⟨w.heap.size,2,none⟩=some (.int .i64 0):=IB.cell Z4' 2 (by first|decide|simp);have z3:World.cell? w3 ⟨w.heap.size,3,none⟩=some (.int .i64 0):=IB.cell Z4' 3 (by first|decide|simp);have y0:World.frozen? w3 ⟨w.heap.size,0,none⟩=false:=Blk.frozen Z4' 0;have y1:World.frozen? w3 ⟨w.heap.size,1,none⟩=false:=Blk.frozen Z4' 1;have y2:World.frozen? w3 ⟨w.heap.size,2,none⟩=false:=Blk.frozen Z4' 2;have y3:World.frozen? w3 ⟨w.heap.size,3,none⟩=false:=Blk.frozen Z4' 3;have J4:=hid J4;have Z5:=hid Z4';clear hB Z4'))
   rename_i hHeldZ
   clear hHeldZ
   clear k0 k1 k2 k3 l0 l1 l2 l3 z0 z1 z2 z3 y0 y1 y2 y3
   simp only[Exit.then]
   have RF:=hid (show IB ((((w3.setCell ⟨w.heap.size,0,none⟩ (.int .i64 x0)).setCell ⟨w.heap.size,1,none⟩ (.int .i64 x1)).setCell ⟨w.heap.size,2,none⟩ (.int .i64 x2)).setCell ⟨w.heap.size,3,none⟩ (.int .i64 x3)) w.heap.size 72 [x0,x1,x2,x3] from IB.set_ (IB.set_ (IB.set_ (IB.set_ Z5.out 0 x0) 1 x1) 2 x2) 3 x3)
   have BF:=hid (show Below w.heap.size w ((((w3.setCell ⟨w.heap.size,0,none⟩ (.int .i64 x0)).setCell ⟨w.heap.size,1,none⟩ (.int .i64 x1)).setCell ⟨w.heap.size,2,none⟩ (.int .i64 x2)).setCell ⟨w.heap.size,3,none⟩ (.int .i64 x3)) from(((B4.out.setCell (p:=⟨w.heap.size,0,none⟩) (Nat.le_refl _) _).setCell (p:=⟨w.heap.size,1,none⟩) (Nat.le_refl _) _).setCell (p:=⟨w.heap.size,2,none⟩) (Nat.le_refl _) _).setCell (p:=⟨w.heap.size,3,none⟩) (Nat.le_refl _) _)
   go_wp2
   refine bodyPost_ret (v:=_) (hR _ _ _ 72 [x0,x1,x2,x3] _ 4 rfl RF.out Tryd.underlying72 rfl size4i rfl) rfl ?_
   have:=FG.out _ BF.out
   rw[HP.out] at this
   exact this
end Go.Proofs.YthoiikkjjaldnaaDoor
