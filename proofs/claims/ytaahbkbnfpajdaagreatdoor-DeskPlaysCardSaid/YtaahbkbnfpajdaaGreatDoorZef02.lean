/- Lemmas. -/
import Derived.Test.YtaahbkbnfpajdaaGreatDoorZef0i
namespace Go.Proofs.YtaahbkbnfpajdaaGreatDoor
set_option linter.all false
set_option maxRecDepth 100000
set_option maxHeartbeats 8000000
open Go.RowKit
theorem uZ(w:Wd)(b c d:Nat)(x y:Int)(r:IntBlk w b)(q:IntAt w c x)(U:IntAt w d y)(z:Sm x.natAbs)(A:Sm y.natAbs):
 Cl 96 #[.pointer (some ⟨b,0,none⟩),.pointer (some ⟨c,0,none⟩),.pointer (some ⟨d,0,none⟩)] w (jo w b (x+y)):=by
 obtain⟨N,E,P,i⟩:=q.cells;obtain⟨O,I,Q,j⟩:=U.cells;obtain⟨s,Z⟩:=ak (decide (x<0));rw[<-Z] at E;obtain⟨t,F⟩:=ak (decide (y<0));rw[<-F] at I;have G:=q.lt;have H:=U.lt;have C:=af (ab8 w.drew s t N O _ _ i.drew j.drew z A);have B:=af (fun(g:Wd) (a:Bool) (n:Value) (f:Nat) (hw:Bw w g) (u:Nm g n f)=>ql g b a n f (r.below hw (ax _)) u);have D:=af (fun(g p:Wd) (a:Bool) (f:Nat) (hw:Bw w g) (l:sgn a f=sgn s x.natAbs+sgn t y.natAbs) (h:IntAt p b (sgn a f)) (m:g.grownBy p (some b))=>
  show jo w b (x+y) (.returned (.pointer (some ⟨b,0,none⟩))) p from⟨rfl,by(subst Z F;(rw[l,yz,yz] at h;exact h)),lG (lZ hw (ax _) _) m⟩)
 clear i j q U r Z F z A;go_enter Tryz.func96,Tryz.ntmps96;go_wp2_with fail;go_region_with (first
  |(go_at_call 159;refine C.o.mono ?_;rintro e g ⟨a,n,f,rfl,u,l,k⟩;have v:=af ((rQ (aP w.heap.size w)).trans (Sums.below ⟨a,n,f,rfl,u,l,k⟩));have J:=af u;have K:=af l;clear u l k)
  |(go_at_call 158;refine(B.o _ _ _ _ v.o J.o).mono ?_;rintro e p ⟨rfl,h,m⟩;have L:=af h;have M:=af m;clear h m))
 all_goals
  go_wp2;go_ret;exact D.o _ _ _ _ v.o K.o L.o M.o
