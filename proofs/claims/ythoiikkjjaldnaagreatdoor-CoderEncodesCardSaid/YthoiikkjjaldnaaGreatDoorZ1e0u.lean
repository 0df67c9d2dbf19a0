/- Texts that the law rests on. -/
import Derived.Test.YthoiikkjjaldnaaGreatDoorZ1e01
namespace Go.Proofs.YthoiikkjjaldnaaGreatDoor
set_option linter.unusedVariables false
set_option linter.unusedSimpArgs false
set_option maxRecDepth 100000
set_option maxHeartbeats 8000000
open Go.RowKit
theorem rK(w:World)(b c d:Nat)(x y:Int)(hb:IntBlk w b)(hc:IntAt w c x)(hd:IntAt w d y)(sx:Sm x.natAbs)(sy:Sm y.natAbs):
 Calls Tryz.prog 31 #[.pointer (some ⟨b,0,none⟩),.pointer (some ⟨c,0,none⟩),.pointer (some ⟨d,0,none⟩)] w (jE w b (x+y)):=by
 obtain⟨vx,h0,h1,hvx⟩:=hc.cells
 obtain⟨vy,k0,k1,hvy⟩:=hd.cells
 obtain⟨s,hs⟩:∃s,s=decide (x<0):=⟨_,rfl⟩
 rw[<-hs] at h0
 obtain⟨t,ht⟩:∃t,t=decide (y<0):=⟨_,rfl⟩
 rw[<-ht] at k0
 have hlc:=hc.lt
 have hld:=hd.lt
 have K0:=hid (Vz w.drew s t vx vy _ _ hvx.drew hvy.drew sx sy)
 have G0:=hid (fun(w1:World) (neg:Bool) (v1:Value) (n1:Nat) (hw:Below w.heap.size w w1) (hnm:Nm w1 v1 n1)=>oO w1 b neg v1 n1 (hb.below hw (al0z _)) hnm)
 have FIN:=hid (fun(w1 w2:World) (neg:Bool) (n1:Nat) (hw:Below w.heap.size w w1) (hz:sgn neg n1=sgn s x.natAbs+sgn t y.natAbs) (hI:IntAt w2 b (sgn neg n1)) (hG:w1.grownBy w2 (some b))=>
  show jE w b (x+y) (.returned (.pointer (some ⟨b,0,none⟩))) w2 from⟨rfl,by(subst hs ht;(rw[hz,vN,vN] at hI;exact hI)),jQ (kG hw (al0z _) _) hG⟩)
 clear hvx hvy hc hd hb hs ht sx sy
 go_enter Tryz.func31,Tryz.ntmps31
 go_wp2_with fail
 go_region_with (first
  |(go_at_call 80;refine K0.out.mono ?_;rintro e w1 ⟨neg,v1,n1,rfl,hnm,hz,hw'⟩;have q1:=hid ((Below.drew (aA w.heap.size w)).trans (Sums.below ⟨neg,v1,n1,rfl,hnm,hz,hw'⟩));have q2:=hid hnm;have q3:=hid hz;clear hnm hz hw')
  |(go_at_call 78;refine(G0.out _ _ _ _ q1.out q2.out).mono ?_;rintro e w2 ⟨rfl,hI,hG⟩;have q4:=hid hI;have q5:=hid hG;clear hI hG))
 all_goals
  go_wp2
  go_ret
  exact FIN.out _ _ _ _ q1.out q3.out q4.out q5.out
end Go.Proofs.YthoiikkjjaldnaaGreatDoor
