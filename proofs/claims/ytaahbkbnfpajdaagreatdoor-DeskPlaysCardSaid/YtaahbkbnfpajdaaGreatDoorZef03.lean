/- Lemmas. -/
import Derived.Test.YtaahbkbnfpajdaaGreatDoorZef00
namespace Go.Proofs.YtaahbkbnfpajdaaGreatDoor
set_option linter.all false
set_option maxRecDepth 100000
set_option maxHeartbeats 8000000
open Go.RowKit
theorem oJ(w:Wd)(b c d:Nat)(x y:Int)(z:IntBlk w b)(m:IntAt w c x)(U:IntAt w d y)(B:Sm x.natAbs)(C:Sm y.natAbs):
 Cl 108 #[.pointer (some ⟨b,0,none⟩),.pointer (some ⟨c,0,none⟩),.pointer (some ⟨d,0,none⟩)] w (jo w b (x*y)):=by
 obtain⟨K,v,O,h⟩:=m.cells;obtain⟨L,A,P,i⟩:=U.cells;obtain⟨s,Z⟩:=ak (decide (x<0));rw[<-Z] at v;obtain⟨t,F⟩:=ak (decide (y<0));rw[<-F] at A;have n:=m.lt;have q:=U.lt;have G:=af (ajO w.drew K L _ _ h.drew i.drew B C);have E:=af (fun(a:Wd) (neg:Bool) (r:Value) (n1:Nat) (f:Bw w a) (u:Nm a r n1)=>ql a b neg r n1 (z.below f (ax _)) u);have D:=af (fun(a l:Wd) (neg:Bool) (n1:Nat) (f:Bw w a) (hz:neg=(!(s==t))/\n1=x.natAbs*y.natAbs) (g:IntAt l b (sgn neg n1)) (j:a.grownBy l (some b))=>
  show jo w b (x*y) (.returned (.pointer (some ⟨b,0,none⟩))) l from⟨rfl,by(subst Z F;(rw[hz.1,hz.2,aku] at g;exact g)),lG (lZ f (ax _) _) j⟩)
 clear h i m U z Z F B C;go_enter Tryz.func108,Tryz.ntmps108;go_wp2_with fail;go_region_with (first
  |(go_at_call 172;refine G.o.mono ?_;rintro e a ⟨⟨r,rfl,u⟩,f⟩;have k:=af ((rQ (aP w.heap.size w)).trans f);have H:=af u;have M:=(Kz k.o (p:=⟨c,0,none⟩) n).trans v;have N:=(Kz k.o (p:=⟨d,0,none⟩) q).trans A;clear u f)
  |(go_at_call 158;refine(E.o _ _ _ _ k.o H.o).mono ?_;rintro e l ⟨rfl,g,j⟩;have I:=af g;have J:=af j;clear g j))
 all_goals
  go_wp2;go_ret;exact D.o _ _ _ _ k.o ⟨rfl,rfl⟩ I.o J.o
