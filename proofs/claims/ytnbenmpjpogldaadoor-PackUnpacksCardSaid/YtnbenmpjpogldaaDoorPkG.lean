/- The walk of the program's Good of a packet. -/
import Derived.Test.YtnbenmpjpogldaaDoorPkF
import Derived.Test.YtnbenmpjpogldaaDoorBigICmp
import Derived.BigQuiet
import Derived.Deep.QuietTactic
namespace Go.Proofs.YtnbenmpjpogldaaDoor
set_option linter.unusedVariables false
set_option linter.unusedSimpArgs false
set_option maxRecDepth 100000
open Go.RowKit

def pkOk (ps : List Int) (i : Nat) : Prop := 0 ≤ ps.getD i 0 ∧ ps.getD i 0 ≤ pkT.getD i 0
instance (ps : List Int) (i : Nat) : Decidable (pkOk ps i) := by unfold pkOk; infer_instance
/-- Are the first n numbers in their bounds? -/
def pkTo (ps : List Int) (n : Nat) : Bool := (List.range n).all (fun i => decide (pkOk ps i))
theorem pkTo_zero (ps : List Int) : pkTo ps 0 = true := rfl
theorem pkTo_succ {ps : List Int} {n : Nat} (h : pkTo ps n = true) (h2 : pkOk ps n) : pkTo ps (n + 1) = true := by
  unfold pkTo at *
  rw [List.range_succ, List.all_append, h]
  simp [h2]
theorem pkTo_not {ps : List Int} {n m : Nat} (hn : n < m) (h2 : ¬ pkOk ps n) : pkTo ps m = false := by
  unfold pkTo
  rw [List.all_eq_false]
  exact ⟨n, by simpa using hn, by simpa using h2⟩
theorem pkTo_at {ps : List Int} {n i : Nat} (h : pkTo ps n = true) (hi : i < n) : pkOk ps i := by
  unfold pkTo at h
  rw [List.all_eq_true] at h
  simpa using h i (by simpa using hi)

set_option maxHeartbeats 4000000 in
theorem packGood_any (ps : List Int) (w : World) (T : TabA w 1 widthL) (hl : ps.length = 25) :
    Calls Tryd.prog 6 #[.agg (agi ps)] w fun e w' => e = .returned (.bool (pkTo ps 25)) ∧ Below w.heap.size w w' := by
  have P0 := hid (IB.new w 28 ps)
  have B0 := hid ((Below.refl w.heap.size w).alloc (Nat.le_refl _) (.cells (agi ps) 28))
  have T0 := hid (T.below B0.out)
  have HL := hid hl
  clear T hl
  obtain ⟨V, hV⟩ : ∃ V, V = w.alloc (.cells (agi ps) 28) := ⟨_, rfl⟩
  have SV := hid (show V.heap.size = w.heap.size + 1 by rw [hV]; simp)
  rw [← hV] at P0 B0 T0
  have HV := hid hV
  clear hV
  go_enter Tryd.func6, Tryd.ntmps6
  go_wp2_with (first
    | (rw [← HV.out]; clear HV)
    | (go_at_call 14; (with_reducible refine (fields_any w.heap.size V T0.out).mono ?_); rintro e w1 ⟨A, c, rfl, hO, hB⟩; obtain ⟨b, rfl, hb1, hb2, hb3⟩ := OwnF.at_ hO (by omega); have HB1 := hid hb1; have HB2 := hid hb2; have HC := hid hb3; have P1 := hid (Blk.below' P0.out hB); have B1 := hid (B0.out.trans (hB.mono B0.out.size)); clear hO hB hb1 hb2 hb3))
  go_loopw [7] (fun iv wr => ∃ i : Nat, i ≤ 25 ∧ iv = .int .i64 i ∧ Hid (pkTo ps i = true) ∧ Hid (Below w1.heap.size w1 wr)) (fun iv _ => 25 - (intOf iv).toNat)
  case atStart => exact ⟨0, by omega, rfl, hid (pkTo_zero ps), hid (Below.refl _ _)⟩
  case round =>
    obtain ⟨i, hi, rfl, HP, HB⟩ := hrel
    by_cases hlt : i < 25
    · obtain ⟨f0, f1, f2⟩ := HC.out i hlt
      have hs1 := HB.out.size
      have hb1 := HB1.out
      have c0 : wr.cell? ⟨b, i * 3, none⟩ = some (.pointer (some ⟨w.heap.size, i, none⟩)) := by rw [Nat.mul_comm]; exact (HB.out.cell (p := ⟨b, 3 * i, none⟩) hb1).trans f0
      have c1 : wr.cell? ⟨b, i * 3 + 1, none⟩ = some (.int .i64 (pkB.getD i 0)) := by rw [Nat.mul_comm]; exact (HB.out.cell (p := ⟨b, 3 * i + 1, none⟩) hb1).trans f1
      have c2 : wr.cell? ⟨b, i * 3 + 2, none⟩ = some (.int .i64 (pkT.getD i 0)) := by rw [Nat.mul_comm]; exact (HB.out.cell (p := ⟨b, 3 * i + 2, none⟩) hb1).trans f2
      have p0 : wr.cell? ⟨w.heap.size, i, none⟩ = some (.int .i64 (ps.getD i 0)) := IB.cell (Blk.below' P1.out HB.out) i (by rw [HL.out]; exact hlt)
      have hpl : w.heap.size < wr.heap.size := Blk.lt (Blk.below' P1.out HB.out)
      have HN := hid (fun h => pkTo_not (ps := ps) hlt h)
      have HY := hid (fun h => pkTo_succ HP.out h)
      have HD := hid (show pkOk ps i ↔ 0 ≤ ps.getD i 0 ∧ ps.getD i 0 ≤ pkT.getD i 0 from Iff.rfl)
      generalize ps.getD i 0 = x at *
      generalize pkT.getD i 0 = t at *
      generalize pkB.getD i 0 = bb at *
      have i0 : (0 : Int) ≤ i := by omega
      have i25 : (i : Int) < 25 := by omega
      obtain ⟨W, hW⟩ : ∃ W, W = wr.alloc (.cells #[.pointer (some ⟨w.heap.size, i, none⟩), .int .i64 bb, .int .i64 t] 43) := ⟨_, rfl⟩
      have q0 : W.cell? ⟨wr.heap.size, 0, none⟩ = some (.pointer (some ⟨w.heap.size, i, none⟩)) := by rw [hW]; exact Blk.cell (Blk.new wr _ _) 0
      have q2 : W.cell? ⟨wr.heap.size, 2, none⟩ = some (.int .i64 t) := by rw [hW]; exact Blk.cell (Blk.new wr _ _) 2
      have qx : W.cell? ⟨w.heap.size, i, none⟩ = some (.int .i64 x) := by rw [hW]; exact (((Below.refl wr.heap.size wr).alloc (Nat.le_refl _) _).cell (p := ⟨w.heap.size, i, none⟩) hpl).trans p0
      have BW := hid (show Below w1.heap.size w1 W by rw [hW]; exact HB.out.alloc hs1 _)
      clear f0 f1 f2
      go_wp2
      rw [← hW]
      clear hW c0 c1 c2 p0
      by_cases hx : x < 0
      · have d0 : decide (x < 0) = true := by simpa using hx
        go_quiet (fail)
        go_wp2
        go_ret
        exact ⟨by rw [HN.out (fun h => by have := HD.out.1 h; omega)]; rfl, B1.out.trans ((BW.out.trans ((below_drN W _).mono BW.out.size)).mono B1.out.size)⟩
      · have d0 : decide (x < 0) = false := by simpa using hx
        by_cases ht : t < x
        · have d1 : decide (t < x) = true := by simpa using ht
          go_quiet (fail)
          go_wp2
          go_ret
          exact ⟨by rw [HN.out (fun h => by have := HD.out.1 h; omega)]; rfl, B1.out.trans ((BW.out.trans ((below_drN W _).mono BW.out.size)).mono B1.out.size)⟩
        · have d1 : decide (t < x) = false := by simpa using ht
          go_quiet (fail)
          go_wp2
          go_roundw
          case rel => exact ⟨i + 1, by omega, by go_num, hid (HY.out (HD.out.2 (by omega))), hid (BW.out.trans ((below_drN W _).mono BW.out.size))⟩
          case measure => simp [intOf] <;> omega
    · obtain rfl : i = 25 := by omega
      go_wp2
      go_ret
      exact ⟨by rw [HP.out]; rfl, B1.out.trans (HB.out.mono B1.out.size)⟩
end Go.Proofs.YtnbenmpjpogldaaDoor
