/- Texts that the law rests on, laid together: TopG. -/
import Derived.Test.YthoiikkjjaldnaaDoorZ9e0fbb
import Derived.Test.YthoiikkjjaldnaaDoorZ2f4d1a
import Derived.Test.YthoiikkjjaldnaaDoorZ5940b7
import Derived.Test.YthoiikkjjaldnaaDoorZ5a4ff4
namespace Go.Proofs.YthoiikkjjaldnaaDoor
set_option linter.unusedVariables false
set_option linter.unusedSimpArgs false
set_option maxRecDepth 100000
open Go.RowKit
structure Te (w W:World) (gE gD:Nat) (s:En) (m:Mm):Prop where
 T:Tp w W gE gD s m
 R:EB W w.heap.size zeroEn
 Q:MB W (w.heap.size+1) zeroM
 l:w.heap.size+2<=gE
section
variable {w W W':World} {gE gD:Nat} {s s':En} {m m':Mm}
theorem Te.below (h:Te w W gE gD s m) (hb:Below W.heap.size W W'):Te w W' gE gD s m:=⟨h.T.below hb,Blk.below' h.R hb,Blk.below' h.Q hb,h.l⟩
theorem Te.setE (h:Te w W gE gD s m):Te w (W.setRow gE s'.ag) gE gD s' m:=⟨h.T.setE,Blk.rowFar h.R (by have:=h.l;omega),Blk.rowFar h.Q (by have:=h.l;omega),h.l⟩
theorem Te.setD (h:Te w W gE gD s m):Te w (W.setRow gD m'.ag) gE gD s m':=⟨h.T.setD,Blk.rowFar h.R (by have:=h.l;have:=h.T.l1;omega),Blk.rowFar h.Q (by have:=h.l;have:=h.T.l1;omega),h.l⟩
theorem Te.lt (h:Te w W gE gD s m):gD<W.heap.size:=h.T.lt
theorem Te.far (h:Te w W gE gD s m) {g:Nat} (hg:gD<g) (vs:List Value) (o:Nat):Te w (W.setCells g o vs) gE gD s m:=by
 have h1:=h.l
 have h2:=h.T.l1
 exact⟨⟨blk_sc (by omega) _ _ _ h.T.E,blk_sc (by omega) _ _ _ h.T.D,below_sc (by omega) _ _ _ h.T.bel,h.T.l0,h.T.l1⟩,blk_sc (by omega) _ _ _ h.R,blk_sc (by omega) _ _ _ h.Q,h.l⟩
theorem Te.farC (h:Te w W gE gD s m) {g:Nat} (hg:gD<g) (o:Nat) (v:Value):Te w (W.setCell ⟨g,o,none⟩ v) gE gD s m:=by
 have h1:=h.l
 have h2:=h.T.l1
 exact⟨⟨Blk.far h.T.E (by show gE≠g;omega) _,Blk.far h.T.D (by show gD≠g;omega) _,h.T.bel.setCell (by show w.heap.size<=g;omega) _,h.T.l0,h.T.l1⟩,Blk.far h.R (by show w.heap.size≠g;omega) _,Blk.far h.Q (by show w.heap.size+1≠g;omega) _,h.l⟩
end
structure Sf (w W:World) (gE gD gT:Nat) (s:En) (m:Mm) (t:Tk):Prop where
 T:Te w W gE gD s m
 K:Blk W gT 38 t.cs.toArray
 l:gD<gT
 r:Rs W w.heap.size t.A t.xs
section
variable {w W W':World} {gE gD gT:Nat} {s s':En} {m m':Mm} {t:Tk}
theorem Sf.lt (h:Sf w W gE gD gT s m t):gT<W.heap.size:=Blk.lt h.K
theorem Sf.below (h:Sf w W gE gD gT s m t) (hb:Below W.heap.size W W'):Sf w W' gE gD gT s m t:=⟨h.T.below hb,Blk.below' h.K hb,h.l,h.r.below (hb.mono h.T.T.bel.size)⟩
theorem Sf.far {g:Nat} (h:Sf w W gE gD gT s m t) (hg:gT+1<=g) (vs:List Value) (o:Nat):Sf w (W.setCells g o vs) gE gD gT s m t:=by
 have h1:=h.T.l
 have h2:=h.T.T.l1
 have h3:=h.l
 exact⟨h.T.far (by omega) _ _,blk_sc (by omega) _ _ _ h.K,h.l,h.r.below (below_sc (by omega) _ _ _ (Below.refl _ _))⟩
theorem Sf.farC {g:Nat} (h:Sf w W gE gD gT s m t) (hg:gT+1<=g) (o:Nat) (v:Value):Sf w (W.setCell ⟨g,o,none⟩ v) gE gD gT s m t:=by
 have h1:=h.T.l
 have h2:=h.T.T.l1
 have h3:=h.l
 exact⟨h.T.farC (by omega) _ _,Blk.far h.K (by show gT≠g;omega) _,h.l,h.r.below ((Below.refl w.heap.size W).setCell (by show w.heap.size<=g;omega) _)⟩
theorem Sf.setE (h:Sf w W gE gD gT s m t):Sf w (W.setRow gE s'.ag) gE gD gT s' m t:=by
 have h1:=h.T.l
 have h2:=h.T.T.l1
 have h3:=h.l
 exact⟨h.T.setE,Blk.rowFar h.K (by omega),h.l,h.r.below (below_setRow (Below.refl w.heap.size W) (by omega) _)⟩
end
structure Sg (w W:World) (gE gD gT:Nat) (s:En) (m:Mm) (t:Tk) (gb c:Nat) (bs:List Int):Prop where
 F:Sf w W gE gD gT s m t
 O:OwnB W (gT+1) (some ⟨gb,0,none⟩) c bs
theorem Sg.below {w W W':World} {gE gD gT:Nat} {s:En} {m:Mm} {t:Tk} {gb c:Nat} {bs:List Int} (h:Sg w W gE gD gT s m t gb c bs) (hb:Below W.heap.size W W'):Sg w W' gE gD gT s m t gb c bs:=⟨h.F.below hb,h.O.below hb⟩
end Go.Proofs.YthoiikkjjaldnaaDoor
