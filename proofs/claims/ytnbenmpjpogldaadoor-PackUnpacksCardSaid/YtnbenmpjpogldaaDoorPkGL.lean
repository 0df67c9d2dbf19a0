/- The walk of the law PackGoods. -/
import Derived.Test.YtnbenmpjpogldaaDoorPkH
import Derived.Test.YtnbenmpjpogldaaDoorPkP
import Derived.Test.YtnbenmpjpogldaaDoorQuiC
namespace Go.Proofs.YtnbenmpjpogldaaDoor
set_option linter.unusedVariables false
set_option linter.unusedSimpArgs false
set_option maxRecDepth 100000
open Go.RowKit

/-- The packet's box and both tables, whatever else has been made. -/
structure PG (w W : World) (ps : List Int) : Prop where
  P : IB W w.heap.size 28 ps
  A : TabA W 1 widthL
  S : TabS W 0 widthL
  B : Below w.heap.size w W
theorem PG.below {w W W' : World} {ps : List Int} (s : PG w W ps) (hb : Below W.heap.size W W') : PG w W' ps :=
  ⟨Blk.below' s.P hb, s.A.below hb, s.S.below hb, s.B.trans (hb.mono s.B.size)⟩
theorem PG.drew {w W : World} {ps : List Int} (s : PG w W ps) : PG w W.drew ps := s.below ((Below.refl _ _).drew)
def Z25 : List Int := List.replicate 25 0
theorem z25_good : pkTo Z25 25 = true := by decide
theorem z25_len : Z25.length = 25 := rfl

set_option maxHeartbeats 4000000 in
theorem walkPackGoods (w : World) (TA : TabA w 1 widthL) (TS : TabS w 0 widthL) (ps : List Int) (hl : ps.length = 25) (hw : W64 ps) :
    Calls Tryd.prog 3 #[.agg (agi ps)] w fun e w' => e = .returned (.bool true) ∧ Below w.heap.size w w' := by
  have B0 := (Below.refl w.heap.size w).alloc (Nat.le_refl _) (.cells (agi ps) 28)
  have T := hid (show PG w (w.alloc (.cells (agi ps) 28)) ps from ⟨IB.new w _ ps, TA.below B0, TS.below B0, B0⟩)
  have K1 := hid (fun W (h : PG w W ps) => show Calls Tryd.prog 6 #[.agg (agi ps)] W (fun e w' => e = .returned (.bool (pkTo ps 25)) ∧ PG w w' ps) from (packGood_any ps W h.A hl).mono fun e w' ⟨h1, h2⟩ => ⟨h1, h.below h2⟩)
  have K2 := hid (fun W (h : PG w W ps) => show Calls Tryd.prog 7 #[.agg (agi ps)] W (fun e w' => e = .returned (.bool (pkTo ps 25)) ∧ PG w w' ps) from (refGoodP_any ps W h.S hl).mono fun e w' ⟨h1, h2⟩ => ⟨h1, h.below h2⟩)
  have K3 := hid (fun W (h : PG w W ps) => show Calls Tryd.prog 8 #[.agg (agi ps)] W (fun e w' => e = .returned (.int .i64 (pkPar ps)) ∧ PG w w' ps) from (packParity_any ps W hl hw).mono fun e w' ⟨h1, h2⟩ => ⟨h1, h.below h2⟩)
  have K4 := hid (fun W (h : PG w W ps) => show Calls Tryd.prog 9 #[.agg (agi ps)] W (fun e w' => e = .returned (.int .i64 (pkPar ps)) ∧ PG w w' ps) from (refParity_any ps W hl hw).mono fun e w' ⟨h1, h2⟩ => ⟨h1, h.below h2⟩)
  have K5 := hid (fun W (h : PG w W ps) => show Calls Tryd.prog 6 #[.agg #[.int .i64 0, .int .i64 0, .int .i64 0, .int .i64 0, .int .i64 0, .int .i64 0, .int .i64 0, .int .i64 0, .int .i64 0, .int .i64 0, .int .i64 0, .int .i64 0, .int .i64 0, .int .i64 0, .int .i64 0, .int .i64 0, .int .i64 0, .int .i64 0, .int .i64 0, .int .i64 0, .int .i64 0, .int .i64 0, .int .i64 0, .int .i64 0, .int .i64 0]] W (fun e w' => e = .returned (.bool true) ∧ PG w w' ps) from (packGood_any Z25 W h.A z25_len).mono fun e w' ⟨h1, h2⟩ => ⟨by rw [h1, z25_good], h.below h2⟩)
  generalize pkTo ps 25 = gd at *
  generalize pkPar ps = pr at *
  have HL := hid hl
  obtain ⟨V, hV⟩ : ∃ V, V = w.alloc (.cells (agi ps) 28) := ⟨_, rfl⟩
  rw [← hV] at T
  have HV := hid hV
  clear hV B0 TA TS hl hw
  go_enter Tryd.func3, Tryd.ntmps3
  go_wp2_with (rw [← HV.out]; clear HV)
  refine wp_region_quietC (fun W => PG w W ps) (by kernel_rfl) (by kernel_rfl) T.out.drew ?_
  repeat (first
    | (refine wpQuiet_step (fun K hK => ?_); refine quiet_loadI (by rfl) 28 (.tmp 1) rfl w.heap.size 28 ps 25 _ rfl (fun W h => PG.P h) Tryd.underlying28 rfl size25 HL.out ?_; refine hK _ ?_; clear hK K)
    | (refine wpQuiet_step (fun K hK => ?_); go_simp; first | (refine hK _ ?_; clear hK K) | (apply Exists.intro; refine ⟨fun W hW => ?_, hK _ ?_⟩; (first | rfl | with_reducible exact K1.out W hW | with_reducible exact K2.out W hW | with_reducible exact K3.out W hW | with_reducible exact K4.out W hW | with_reducible exact K5.out W hW); clear hK K)))
  refine wpQuiet_nil ?_
  intro w2 T2
  go_wp2
  go_ret
  exact ⟨by simp, T2.B⟩
end Go.Proofs.YtnbenmpjpogldaaDoor
