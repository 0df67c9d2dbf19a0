/- Texts that the law rests on, laid together: BestW. -/
import Derived.Test.YthoiikkjjaldnaaDoorZ840156
import Derived.Test.YthoiikkjjaldnaaDoorZ428645
import Derived.Test.YthoiikkjjaldnaaDoorZ4b4ffc
import Derived.OneCell
set_option maxHeartbeats 4000000
namespace Go.Proofs.YthoiikkjjaldnaaDoor
set_option linter.unusedVariables false
set_option linter.unusedSimpArgs false
set_option maxRecDepth 100000
open Go.RowKit
structure Onl (g:Nat) (w w':World):Prop where
 b:Below g w w'
 keep: ∀k,g+5<=k->k<w.heap.size->w'.heap[k]?=w.heap[k]?
section
variable {g:Nat} {w w1 w2:World}
theorem Onl.refl (g:Nat) (w:World):Onl g w w:=⟨Below.refl _ _,fun _ _ _=>rfl⟩
theorem Onl.trans (h:Onl g w w1) (k:Onl g w1 w2):Onl g w w2:=⟨h.b.trans k.b,fun j h1 h2=>(k.keep j h1 (Nat.lt_of_lt_of_le h2 h.b.size)).trans (h.keep j h1 h2)⟩
theorem Onl.of_below (hg:g<=w.heap.size) (hb:Below w.heap.size w w1):Onl g w w1:=⟨hb.mono hg,fun j _ h2=>hb.block j h2⟩
theorem Onl.setCell (h:Onl g w w1) {p:Addr} (h1:g<=p.block) (h2:p.block<g+5) (v:Value):Onl g w (w1.setCell p v):=
 ⟨h.b.setCell h1 v,fun j k1 k2=>(Below.heap_setCell w1 p v j (by omega)).trans (h.keep j k1 k2)⟩
theorem Onl.setRow (h:Onl g w w1) {b:Nat} (h1:g<=b) (h2:b<g+5) (cs:Array Value):Onl g w (w1.setRow b cs):=
 ⟨below_setRow h.b h1 cs,fun j k1 k2=>(setRow_other w1 b j cs (by omega)).trans (h.keep j k1 k2)⟩
theorem Onl.blk {k:Nat} {t:TypeId} {cs:Array Value} (h:Onl g w w1) (hb:Blk w k t cs) (hk:k<g\/g+5<=k):Blk w1 k t cs:=by
 rcases hk with hk|hk
 ·exact Blk.below hb h.b hk
 ·exact(h.keep k hk (Blk.lt hb)).trans hb
end
structure Sst (g gd:Nat) (A:Option Addr) (c gt:Nat) (L d:List Int) (s:Bst) (w:World):Prop where
 D:Blk w gd 36 #[.slice A 40 c]
 R:Rs w g A d
 T:Blk w g 159 #[.pointer (some ⟨gt,0,none⟩)]
 L_:IB w gt 168 L
 X:IB w (g+1) 72 s.at_
 F:Blk w (g+2) 4 #[.bool s.first]
 C:Blk w (g+3) 3 #[.int .i64 s.c]
 E:Blk w (g+4) 3 #[.int .i64 s.e]
 lt1:gd<g
 lt2:gt<g
section
variable {g gd gt c:Nat} {A:Option Addr} {L d:List Int} {s:Bst} {w w':World}
theorem Sst.lt (S:Sst g gd A c gt L d s w):g+5<=w.heap.size:=Blk.lt S.E
theorem Sst.below (S:Sst g gd A c gt L d s w) (hb:Below w.heap.size w w'):Sst g gd A c gt L d s w':=
 ⟨Blk.below' S.D hb,S.R.below' (by have:=S.lt;omega) hb,Blk.below' S.T hb,Blk.below' S.L_ hb,Blk.below' S.X hb,Blk.below' S.F hb,Blk.below' S.C hb,Blk.below' S.E hb,S.lt1,S.lt2⟩
theorem Sst.alloc (S:Sst g gd A c gt L d s w) (o:Obj):Sst g gd A c gt L d s (w.alloc o):=S.below ((Below.refl _ _).alloc (Nat.le_refl _) o)
theorem Sst.setFar (S:Sst g gd A c gt L d s w) {p:Addr} (hp:g+5<=p.block) (v:Value):Sst g gd A c gt L d s (w.setCell p v):=by
 have h1:=S.lt1
 have h2:=S.lt2
 exact⟨Blk.far S.D (by omega) v,S.R.below ((Below.refl _ _).setCell (by omega) v),Blk.far S.T (by omega) v,Blk.far S.L_ (by omega) v,Blk.far S.X (by omega) v,Blk.far S.F (by omega) v,Blk.far S.C (by omega) v,Blk.far S.E (by omega) v,h1,h2⟩
theorem Sst.rowFar (S:Sst g gd A c gt L d s w) {b:Nat} (hp:g+5<=b) (cs:Array Value):Sst g gd A c gt L d s (w.setRow b cs):=by
 have h1:=S.lt1
 have h2:=S.lt2
 exact⟨Blk.rowFar S.D (by omega),S.R.below (below_setRow (Below.refl _ _) (by omega) cs),Blk.rowFar S.T (by omega),Blk.rowFar S.L_ (by omega),Blk.rowFar S.X (by omega),Blk.rowFar S.F (by omega),Blk.rowFar S.C (by omega),Blk.rowFar S.E (by omega),h1,h2⟩
theorem Sst.put (S:Sst g gd A c gt L d s w) (x:List Int) (C E:Int):
 Sst g gd A c gt L d ⟨x,false,C,E⟩ ((((w.setRow (g+1) (agi x)).setCell ⟨g+3,0,none⟩ (.int .i64 C)).setCell ⟨g+4,0,none⟩ (.int .i64 E)).setCell ⟨g+2,0,none⟩ (.bool false)):=by
 have h1:=S.lt1
 have h2:=S.lt2
 have q: ∀(k b:Nat),k≠b->k≠(⟨b,0,none⟩:Addr).block:=fun k b h=>h
 refine⟨?_,?_,?_,?_,?_,?_,?_,?_,h1,h2⟩
 ·exact((Blk.rowFar S.D (by omega)).far (q _ _ (by omega)) _).far (q _ _ (by omega)) _|>.far (q _ _ (by omega)) _
 ·exact S.R.below ((((below_setRow (Below.refl _ _) (by omega) _).setCell (p:=⟨g+3,0,none⟩) (by show g<=g+3;omega) _).setCell (p:=⟨g+4,0,none⟩) (by show g<=g+4;omega) _).setCell (p:=⟨g+2,0,none⟩) (by show g<=g+2;omega) _)
 ·exact((Blk.rowFar S.T (by omega)).far (q _ _ (by omega)) _).far (q _ _ (by omega)) _|>.far (q _ _ (by omega)) _
 ·exact((Blk.rowFar S.L_ (by omega)).far (q _ _ (by omega)) _).far (q _ _ (by omega)) _|>.far (q _ _ (by omega)) _
 ·exact((IB.setRow S.X x).far (q _ _ (by omega)) _).far (q _ _ (by omega)) _|>.far (q _ _ (by omega)) _
 ·have h:=Blk.set_ (((Blk.rowFar (c2:=agi x) (g:=g+1) S.F (by omega)).far (q _ (g+3) (by omega)) (.int .i64 C)).far (q _ (g+4) (by omega)) (.int .i64 E)) 0 (.bool false)
  exact h
 ·have h:=(Blk.set_ (Blk.rowFar (c2:=agi x) (g:=g+1) S.C (by omega)) 0 (.int .i64 C)).far (q _ (g+4) (by omega)) (.int .i64 E)|>.far (q _ (g+2) (by omega)) (.bool false)
  exact h
 ·have h:=(Blk.set_ ((Blk.rowFar (c2:=agi x) (g:=g+1) S.E (by omega)).far (q _ (g+3) (by omega)) (.int .i64 C)) 0 (.int .i64 E)).far (q _ (g+2) (by omega)) (.bool false)
  exact h
theorem Onl.put (hg:Onl g w w') (x:List Int) (C E:Int):
 Onl g w ((((w'.setRow (g+1) (agi x)).setCell ⟨g+3,0,none⟩ (.int .i64 C)).setCell ⟨g+4,0,none⟩ (.int .i64 E)).setCell ⟨g+2,0,none⟩ (.bool false)):=
 (((hg.setRow (b:=g+1) (by omega) (by omega) _).setCell (p:=⟨g+3,0,none⟩) (by show g<=g+3;omega) (by show g+3<g+5;omega) _).setCell (p:=⟨g+4,0,none⟩) (by show g<=g+4;omega) (by show g+4<g+5;omega) _).setCell (p:=⟨g+2,0,none⟩) (by show g<=g+2;omega) (by show g+2<g+5;omega) _
end
theorem best_any (g gd gt c:Nat) (A:Option Addr) (L d ring x:List Int) (s:Bst) (w:World) (S:Sst g gd A c gt L d s w) (dl:d.length=40) (dw:W64 d) (hT:Tbl L ring 40 0) (hx:Ix x) (hs:s.at_.length=4)
 (h64:(-9223372036854775808<=s.c/\s.c<=9223372036854775807)/\ -9223372036854775808<=s.e/\s.e<=9223372036854775807):
 Calls Tryd.prog 96 #[.agg (agi x),.pointer (some ⟨gd,0,none⟩),.pointer (some ⟨g,0,none⟩),.pointer (some ⟨g+2,0,none⟩),.pointer (some ⟨g+3,0,none⟩),.pointer (some ⟨g+4,0,none⟩),.pointer (some ⟨g+1,0,none⟩)] w
  (fun e w'=>e= .returned (.tuple #[])/\Sst g gd A c gt L d (bstS d ring s x) w'/\Onl g w w'):=by
 have KS:=hid (fun W (h:Rs W W.heap.size A d) (hL:IB W gt 168 L)=>score_any A c gt d ring x L W h dl dw hL hT hx)
 have X4:=hid hx.1
 have SL:=hid hs
 have er:=scE_range d ring x
 have cr:=scC_64 d x 4
 have BS:=hid (show bstS d ring s x=if s.first||betterB (scC d x 4) (scE d ring x) s.c s.e then⟨x,false,scC d x 4,scE d ring x⟩ else s from rfl)
 generalize scC d x 4=C at*
 generalize scE d ring x=E at*
 have KB:=hid (fun W=>better_any C E s.c s.e W cr.1 cr.2 (by omega) (by omega) h64.1.1 h64.1.2 h64.2.1 h64.2.2)
 have Q0:=hid (IB.new w 72 x)
 have S0:=hid (S.alloc (.cells (agi x) 72))
 have O0:=hid (Onl.of_below (g:=g) (by have:=S.lt;omega) ((Below.refl w.heap.size w).alloc (Nat.le_refl _) (.cells (agi x) 72)))
 clear S dl dw hT hx hs h64 er cr
 have cD:(w.alloc (.cells (agi x) 72)).cell? ⟨gd,0,none⟩=some (.slice A 40 c):=Blk.cell S0.out.D 0
 have cT:(w.alloc (.cells (agi x) 72)).cell? ⟨g,0,none⟩=some (.pointer (some ⟨gt,0,none⟩)):=Blk.cell S0.out.T 0
 have R0:=hid (S0.out.R.more (show g<=(w.alloc (.cells (agi x) 72)).heap.size by have:=S0.out.lt;omega))
 go_enter Tryd.func96,Tryd.ntmps96
 go_wp2_with (first
  |(refine wpList_loadI rfl 72 (.tmp 7) rfl _ 72 x 4 _ rfl Q0.out Tryd.underlying72 rfl size4i X4.out ?_))
 refine(KS.out _ R0.out S0.out.L_).mono ?_
 rintro e w1 ⟨rfl,hB⟩
 have S1:=hid (S0.out.below hB)
 have Q1:=hid (Blk.below' Q0.out hB)
 have O1:=hid (O0.out.trans (Onl.of_below (by have:=S0.out.lt;omega) hB))
 clear hB S0 Q0 O0 R0 cD cT KS
 have cF1:w1.cell? ⟨g+2,0,none⟩=some (.bool s.first):=Blk.cell S1.out.F 0
 by_cases hf:s.first=true
 ·rw[hf] at cF1 BS
  have BS:=hid (show bstS d ring s x=⟨x,false,C,E⟩ by rw[BS.out];rfl)
  obtain⟨wX,hwX⟩: ∃wX,wX=w1:=⟨_,rfl⟩
  rw[<-hwX] at S1 Q1 O1 cF1|-
  obtain⟨SX,QX,OX⟩:Hid (Sst g gd A c gt L d s wX)/\Hid (IB wX w.heap.size 72 x)/\Hid (Onl g w wX):=⟨S1,Q1,O1⟩
  clear hwX
  have cC:(wX.setRow (g+1) (agi x)).cell? ⟨g+3,0,none⟩=some (.int .i64 s.c):=Blk.cell (Blk.rowFar (c2:=agi x) (g:=g+1) SX.out.C (by omega)) 0
  have cE:(wX.setRow (g+1) (agi x)).cell? ⟨g+4,0,none⟩=some (.int .i64 s.e):=Blk.cell (Blk.rowFar (c2:=agi x) (g:=g+1) SX.out.E (by omega)) 0
  have cF:(wX.setRow (g+1) (agi x)).cell? ⟨g+2,0,none⟩=some (.bool s.first):=Blk.cell (Blk.rowFar (c2:=agi x) (g:=g+1) SX.out.F (by omega)) 0
  have fC:=Blk.frozen (Blk.rowFar (c2:=agi x) (g:=g+1) SX.out.C (by omega)) 0
  have fE:=Blk.frozen (Blk.rowFar (c2:=agi x) (g:=g+1) SX.out.E (by omega)) 0
  have fF:=Blk.frozen (Blk.rowFar (c2:=agi x) (g:=g+1) SX.out.F (by omega)) 0
  have SP:=hid (SX.out.put x C E)
  have OP:=hid (OX.out.put x C E)
  have XS:=hid SX.out.X
  have n34: ¬g+3=g+4:=by omega
  have n32: ¬g+3=g+2:=by omega
  have n42: ¬g+4=g+2:=by omega
  go_wp2_with (first
   |(refine wpList_loadI rfl 72 (.tmp 7) rfl _ 72 x 4 _ rfl QX.out Tryd.underlying72 rfl size4i X4.out ?_)
   |(refine wpList_storeI rfl 72 (.tmp 6) (.tmp 25) rfl _ 72 s.at_ x 4 rfl rfl XS.out size4i SL.out X4.out ?_))
  go_end0
  exact⟨rfl,by rw[BS.out];exact SP.out,OP.out⟩
 have hf:s.first=false:=by simpa using hf
 rw[hf] at cF1 BS
 have cC1:w1.cell? ⟨g+3,0,none⟩=some (.int .i64 s.c):=Blk.cell S1.out.C 0
 have cE1:w1.cell? ⟨g+4,0,none⟩=some (.int .i64 s.e):=Blk.cell S1.out.E 0
 obtain⟨b,hb⟩: ∃b,b=betterB C E s.c s.e:=⟨_,rfl⟩
 rw[<-hb] at KB BS
 clear hb
 go_wp2_with fail
 refine(KB.out w1).mono ?_
 rintro e w2 ⟨rfl,hB⟩
 have S2:=hid (S1.out.below hB)
 have Q2:=hid (Blk.below' Q1.out hB)
 have O2:=hid (O1.out.trans (Onl.of_below (by have:=S1.out.lt;omega) hB))
 clear hB S1 Q1 O1 cF1 cC1 cE1 KB
 rcases Bool.eq_false_or_eq_true b with rfl|rfl
 ·have BS:=hid (show bstS d ring s x=⟨x,false,C,E⟩ by rw[BS.out];rfl)
  obtain⟨wX,hwX⟩: ∃wX,wX=w2:=⟨_,rfl⟩
  rw[<-hwX] at S2 Q2 O2|-
  obtain⟨SX,QX,OX⟩:Hid (Sst g gd A c gt L d s wX)/\Hid (IB wX w.heap.size 72 x)/\Hid (Onl g w wX):=⟨S2,Q2,O2⟩
  clear hwX
  have cC:(wX.setRow (g+1) (agi x)).cell? ⟨g+3,0,none⟩=some (.int .i64 s.c):=Blk.cell (Blk.rowFar (c2:=agi x) (g:=g+1) SX.out.C (by omega)) 0
  have cE:(wX.setRow (g+1) (agi x)).cell? ⟨g+4,0,none⟩=some (.int .i64 s.e):=Blk.cell (Blk.rowFar (c2:=agi x) (g:=g+1) SX.out.E (by omega)) 0
  have cF:(wX.setRow (g+1) (agi x)).cell? ⟨g+2,0,none⟩=some (.bool s.first):=Blk.cell (Blk.rowFar (c2:=agi x) (g:=g+1) SX.out.F (by omega)) 0
  have fC:=Blk.frozen (Blk.rowFar (c2:=agi x) (g:=g+1) SX.out.C (by omega)) 0
  have fE:=Blk.frozen (Blk.rowFar (c2:=agi x) (g:=g+1) SX.out.E (by omega)) 0
  have fF:=Blk.frozen (Blk.rowFar (c2:=agi x) (g:=g+1) SX.out.F (by omega)) 0
  have SP:=hid (SX.out.put x C E)
  have OP:=hid (OX.out.put x C E)
  have XS:=hid SX.out.X
  have n34: ¬g+3=g+4:=by omega
  have n32: ¬g+3=g+2:=by omega
  have n42: ¬g+4=g+2:=by omega
  go_wp2_with (first
   |(refine wpList_loadI rfl 72 (.tmp 7) rfl _ 72 x 4 _ rfl QX.out Tryd.underlying72 rfl size4i X4.out ?_)
   |(refine wpList_storeI rfl 72 (.tmp 6) (.tmp 25) rfl _ 72 s.at_ x 4 rfl rfl XS.out size4i SL.out X4.out ?_))
  go_end0
  exact⟨rfl,by rw[BS.out];exact SP.out,OP.out⟩
 ·have BS:=hid (show bstS d ring s x=s by rw[BS.out];rfl)
  go_wp2
  go_end0
  exact⟨rfl,by rw[BS.out];exact S2.out,O2.out⟩
end Go.Proofs.YthoiikkjjaldnaaDoor
