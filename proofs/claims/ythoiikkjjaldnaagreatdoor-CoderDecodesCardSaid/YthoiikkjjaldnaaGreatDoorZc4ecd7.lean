/- Texts that the law rests on, laid together: PkG, PkP, PkC, PkV, UnV, DeM, SynthW, PushW, MakeW, CoP, EqG, DeH, Ord, CoW. -/
import Derived.Test.YthoiikkjjaldnaaGreatDoorZd3fc81
import Derived.Test.YthoiikkjjaldnaaGreatDoorZ203080
import Derived.BigQuiet
import Derived.Deep.QuietTactic
import Derived.Test.YthoiikkjjaldnaaGreatDoorZ685a03
import Derived.Test.YthoiikkjjaldnaaGreatDoorZa53097
import Derived.BigRegion
import Derived.Laws.CopyOwn
import Derived.Deep.RegionLaw
import Derived.Test.YthoiikkjjaldnaaGreatDoorZa55587
import Derived.StillTail
import Derived.Deep.MidRow
/- The walk of the program's Good of a packet. -/
namespace Go.Proofs.YthoiikkjjaldnaaGreatDoor
set_option linter.unusedVariables false
set_option linter.unusedSimpArgs false
set_option maxRecDepth 100000
open Go.RowKit

def pkOk (ps : List Int) (i : Nat) : Prop := 0 ≤ ps.getD i 0 ∧ ps.getD i 0 ≤ pkT.getD i 0
instance (ps : List Int) (i : Nat) : Decidable (pkOk ps i) := by unfold pkOk; infer_instance
/-- Are the first n numbers in their bounds? -/
def pkTo (ps : List Int) (n : Nat) : Bool := (List.range n).all (fun i => decide (pkOk ps i))
theorem pkTo_zero (ps : List Int) : pkTo ps 0 = true := rfl
theorem pkTo_succ {ps : List Int} {n : Nat} (h : pkTo ps n = true) (h2 : pkOk ps n) : pkTo ps (n + 1) = true := by
  unfold pkTo at *
  rw [List.range_succ, List.all_append, h]
  simp [h2]
theorem pkTo_not {ps : List Int} {n m : Nat} (hn : n < m) (h2 : ¬ pkOk ps n) : pkTo ps m = false := by
  unfold pkTo
  rw [List.all_eq_false]
  exact ⟨n, by simpa using hn, by simpa using h2⟩
theorem pkTo_at {ps : List Int} {n i : Nat} (h : pkTo ps n = true) (hi : i < n) : pkOk ps i := by
  unfold pkTo at h
  rw [List.all_eq_true] at h
  simpa using h i (by simpa using hi)

set_option maxHeartbeats 4000000 in
theorem packGood_any (ps : List Int) (w : World) (T : TabA w 3 widthL) (hl : ps.length = 25) :
    Calls Tryz.prog 65 #[.agg (agi ps)] w fun e w' => e = .returned (.bool (pkTo ps 25)) ∧ Below w.heap.size w w' := by
  have P0 := hid (IB.new w 38 ps)
  have B0 := hid ((Below.refl w.heap.size w).alloc (Nat.le_refl _) (.cells (agi ps) 38))
  have T0 := hid (T.below B0.out)
  have HL := hid hl
  clear T hl
  obtain ⟨V, hV⟩ : ∃ V, V = w.alloc (.cells (agi ps) 38) := ⟨_, rfl⟩
  have SV := hid (show V.heap.size = w.heap.size + 1 by rw [hV]; simp)
  rw [← hV] at P0 B0 T0
  have HV := hid hV
  clear hV
  go_enter Tryz.func65, Tryz.ntmps65
  go_wp2_with (first
    | (rw [← HV.out]; clear HV)
    | (go_at_call 64; (with_reducible refine (fields_any w.heap.size V T0.out).mono ?_); rintro e w1 ⟨A, c, rfl, hO, hB⟩; obtain ⟨b, rfl, hb1, hb2, hb3⟩ := OwnF.at_ hO (by omega); have HB1 := hid hb1; have HB2 := hid hb2; have HC := hid hb3; have P1 := hid (Blk.below' P0.out hB); have B1 := hid (B0.out.trans (hB.mono B0.out.size)); clear hO hB hb1 hb2 hb3))
  go_loopw [7] (fun iv wr => ∃ i : Nat, i ≤ 25 ∧ iv = .int .i64 i ∧ Hid (pkTo ps i = true) ∧ Hid (Below w1.heap.size w1 wr)) (fun iv _ => 25 - (intOf iv).toNat)
  case atStart => exact ⟨0, by omega, rfl, hid (pkTo_zero ps), hid (Below.refl _ _)⟩
  case round =>
    obtain ⟨i, hi, rfl, HP, HB⟩ := hrel
    by_cases hlt : i < 25
    · obtain ⟨f0, f1, f2⟩ := HC.out i hlt
      have hs1 := HB.out.size
      have hb1 := HB1.out
      have c0 : wr.cell? ⟨b, i * 3, none⟩ = some (.pointer (some ⟨w.heap.size, i, none⟩)) := by rw [Nat.mul_comm]; exact (HB.out.cell (p := ⟨b, 3 * i, none⟩) hb1).trans f0
      have c1 : wr.cell? ⟨b, i * 3 + 1, none⟩ = some (.int .i64 (pkB.getD i 0)) := by rw [Nat.mul_comm]; exact (HB.out.cell (p := ⟨b, 3 * i + 1, none⟩) hb1).trans f1
      have c2 : wr.cell? ⟨b, i * 3 + 2, none⟩ = some (.int .i64 (pkT.getD i 0)) := by rw [Nat.mul_comm]; exact (HB.out.cell (p := ⟨b, 3 * i + 2, none⟩) hb1).trans f2
      have p0 : wr.cell? ⟨w.heap.size, i, none⟩ = some (.int .i64 (ps.getD i 0)) := IB.cell (Blk.below' P1.out HB.out) i (by rw [HL.out]; exact hlt)
      have hpl : w.heap.size < wr.heap.size := Blk.lt (Blk.below' P1.out HB.out)
      have HN := hid (fun h => pkTo_not (ps := ps) hlt h)
      have HY := hid (fun h => pkTo_succ HP.out h)
      have HD := hid (show pkOk ps i ↔ 0 ≤ ps.getD i 0 ∧ ps.getD i 0 ≤ pkT.getD i 0 from Iff.rfl)
      generalize ps.getD i 0 = x at *
      generalize pkT.getD i 0 = t at *
      generalize pkB.getD i 0 = bb at *
      have i0 : (0 : Int) ≤ i := by omega
      have i25 : (i : Int) < 25 := by omega
      obtain ⟨W, hW⟩ : ∃ W, W = wr.alloc (.cells #[.pointer (some ⟨w.heap.size, i, none⟩), .int .i64 bb, .int .i64 t] 122) := ⟨_, rfl⟩
      have q0 : W.cell? ⟨wr.heap.size, 0, none⟩ = some (.pointer (some ⟨w.heap.size, i, none⟩)) := by rw [hW]; exact Blk.cell (Blk.new wr _ _) 0
      have q2 : W.cell? ⟨wr.heap.size, 2, none⟩ = some (.int .i64 t) := by rw [hW]; exact Blk.cell (Blk.new wr _ _) 2
      have qx : W.cell? ⟨w.heap.size, i, none⟩ = some (.int .i64 x) := by rw [hW]; exact (((Below.refl wr.heap.size wr).alloc (Nat.le_refl _) _).cell (p := ⟨w.heap.size, i, none⟩) hpl).trans p0
      have BW := hid (show Below w1.heap.size w1 W by rw [hW]; exact HB.out.alloc hs1 _)
      clear f0 f1 f2
      go_wp2
      rw [← hW]
      clear hW c0 c1 c2 p0
      by_cases hx : x < 0
      · have d0 : decide (x < 0) = true := by simpa using hx
        go_quiet (fail)
        go_wp2
        go_ret
        exact ⟨by rw [HN.out (fun h => by have := HD.out.1 h; omega)]; rfl, B1.out.trans ((BW.out.trans ((below_drN W _).mono BW.out.size)).mono B1.out.size)⟩
      · have d0 : decide (x < 0) = false := by simpa using hx
        by_cases ht : t < x
        · have d1 : decide (t < x) = true := by simpa using ht
          go_quiet (fail)
          go_wp2
          go_ret
          exact ⟨by rw [HN.out (fun h => by have := HD.out.1 h; omega)]; rfl, B1.out.trans ((BW.out.trans ((below_drN W _).mono BW.out.size)).mono B1.out.size)⟩
        · have d1 : decide (t < x) = false := by simpa using ht
          go_quiet (fail)
          go_wp2
          go_roundw
          case rel => exact ⟨i + 1, by omega, by go_num, hid (HY.out (HD.out.2 (by omega))), hid (BW.out.trans ((below_drN W _).mono BW.out.size))⟩
          case measure => simp [intOf] <;> omega
    · obtain rfl : i = 25 := by omega
      go_wp2
      go_ret
      exact ⟨by rw [HP.out]; rfl, B1.out.trans (HB.out.mono B1.out.size)⟩
end Go.Proofs.YthoiikkjjaldnaaGreatDoor

/- The walks of both Paritys of a packet. -/
namespace Go.Proofs.YthoiikkjjaldnaaGreatDoor
set_option linter.unusedVariables false
set_option linter.unusedSimpArgs false
set_option maxRecDepth 100000
open Go.RowKit

/-- How many of the first k bits are set. -/
def bitS (X : Nat) : Nat → Nat
  | 0 => 0
  | k + 1 => bitS X k + X / 2 ^ k % 2
theorem bitS_end (X : Nat) {j m : Nat} (h : X / 2 ^ j = 0) (hm : j ≤ m) : bitS X m = bitS X j := by
  induction m with
  | zero => obtain rfl : j = 0 := by omega
            rfl
  | succ m ih =>
    by_cases e : j = m + 1
    · rw [e]
    · have h1 := ih (by omega)
      have h2 : X / 2 ^ m = 0 := by
        obtain ⟨d, rfl⟩ : ∃ d, m = j + d := ⟨m - j, by omega⟩
        rw [Nat.pow_add, ← Nat.div_div_eq_div_mul, h, Nat.zero_div]
      simp only [bitS]
      rw [h1, h2, Nat.zero_mod, Nat.add_zero]
theorem bitS_le (X k : Nat) : bitS X k ≤ k := by
  induction k with
  | zero => exact Nat.le_refl _
  | succ k ih => simp only [bitS]; omega
theorem half_pow (X j : Nat) : X / 2 ^ j / 2 = X / 2 ^ (j + 1) := by rw [Nat.div_div_eq_div_mul, Nat.pow_succ]
/-- How many bits of a number above 0 are set. -/
def parB (x : Int) : Nat := bitS x.toNat 63
theorem top63 {x : Int} (h : x ≤ 9223372036854775807) : x.toNat / 2 ^ 63 = 0 := Nat.div_eq_of_lt (by omega)
/-- The parity of a packet's kind and lags. -/
def pkPar (ps : List Int) : Int := ((parB (ps.getD 0 0) + parB (ps.getD 9 0) + parB (ps.getD 17 0)) % 2 : Nat)
/-- The sum of the first k of the three. -/
def parS (a b c : Int) (k : Nat) : Nat := (if 0 < k then parB a else 0) + (if 1 < k then parB b else 0) + (if 2 < k then parB c else 0)
theorem parB_le (x : Int) : parB x ≤ 63 := bitS_le _ _
theorem xor_bits (a b : Nat) : bits BinOp.xor IntKind.i64 ((a : Int) % 2) ((b : Int) % 2) = ((a + b : Nat) : Int) % 2 := by
  have ha : (a : Int) % 2 = 0 ∨ (a : Int) % 2 = 1 := by omega
  have hb : (b : Int) % 2 = 0 ∨ (b : Int) % 2 = 1 := by omega
  have e : ((a + b : Nat) : Int) % 2 = ((a : Int) % 2 + (b : Int) % 2) % 2 := by omega
  rw [e]
  rcases ha with h | h <;> rcases hb with h2 | h2 <;> rw [h, h2] <;> rfl

set_option maxHeartbeats 4000000 in
theorem packParity_any (ps : List Int) (w : World) (hl : ps.length = 25) (hw : W64 ps) :
    Calls Tryz.prog 66 #[.agg (agi ps)] w fun e w' => e = .returned (.int .i64 (pkPar ps)) ∧ Below w.heap.size w w' := by
  have P0 := IB.new w 38 ps
  have B0 := hid ((Below.refl w.heap.size w).alloc (Nat.le_refl _) (.cells (agi ps) 38))
  have c0 := IB.cell P0 0 (by omega)
  have c1 := IB.cell P0 9 (by omega)
  have c2 := IB.cell P0 17 (by omega)
  have HA := hw.at_ 0
  have HB := hw.at_ 9
  have HC := hw.at_ 17
  have HP := hid (show pkPar ps = ((parB (ps.getD 0 0) + parB (ps.getD 9 0) + parB (ps.getD 17 0)) % 2 : Nat) from rfl)
  obtain ⟨a, ha⟩ : ∃ a, a = ps.getD 0 0 := ⟨_, rfl⟩
  obtain ⟨b, hb⟩ : ∃ b, b = ps.getD 9 0 := ⟨_, rfl⟩
  obtain ⟨c, hc⟩ : ∃ c, c = ps.getD 17 0 := ⟨_, rfl⟩
  rw [← ha] at c0 HA HP
  rw [← hb] at c1 HB HP
  rw [← hc] at c2 HC HP
  obtain ⟨V, hV⟩ : ∃ V, V = w.alloc (.cells (agi ps) 38) := ⟨_, rfl⟩
  rw [← hV] at c0 c1 c2 B0
  have HV := hid hV
  have HA := hid HA
  have HB := hid HB
  have HC := hid HC
  clear ha hb hc hV hw hl P0
  go_enter Tryz.func66, Tryz.ntmps66
  go_wp2_with (rw [← HV.out]; clear HV)
  go_loop [3, 17] (fun nv iv => ∃ k : Nat, k ≤ 3 ∧ iv = .int .i64 k ∧ nv = .int .i64 ((parS a b c k : Nat) % 2 : Int)) (fun _ iv => 3 - (intOf iv).toNat)
  case atStart => exact ⟨0, by omega, rfl, rfl⟩
  case round =>
    obtain ⟨k, hk, rfl, rfl⟩ := hrel
    by_cases hlt : k < 3
    · obtain rfl | rfl | rfl : k = 0 ∨ k = 1 ∨ k = 2 := by omega
      · have HS := hid (show parS a b c (0 + 1) = parS a b c 0 + parB a from by simp [parS])
        have hix : ∀ w', (Instr.index 166 (.agg #[.int .i64 a, .int .i64 b, .int .i64 c]) (.int .i64 0)).run Tryz.prog w' = .ok (.int .i64 a) w' := fun _ => by kernel_rfl
        obtain ⟨n0, hn0⟩ : ∃ n0, n0 = parS a b c 0 := ⟨_, rfl⟩
        rw [← hn0] at HS ⊢
        clear hn0
        try rw [show ((0 : Nat) : Int) = 0 from rfl]
        have hdec : decide ((0 : Int) < 3) = true := rfl
        go_wp2
        go_loop [3, 5] (fun nv xv => ∃ (j N : Nat) (y : Int), j ≤ 63 ∧ y ≤ 9223372036854775807 ∧ xv = .int .i64 y ∧ nv = .int .i64 ((N : Int) % 2) ∧ Hid (N = n0 + bitS a.toNat j) ∧ Hid (y.toNat = a.toNat / 2 ^ j)) (fun _ xv => (intOf xv).toNat)
        case atStart => exact ⟨0, n0, a, by omega, HA.out.2, rfl, rfl, hid rfl, hid (by simp)⟩
        case round =>
          obtain ⟨j, N, y, hj, hy, rfl, rfl, HN, HY⟩ := hrel
          by_cases hpos : 0 < y
          · have hj63 : j < 63 := by
              refine Classical.byContradiction fun hc => ?_
              obtain rfl : j = 63 := by omega
              have := HY.out
              rw [top63 HA.out.2] at this
              omega
            have ha := and1 y
            have hx := xor_bits N y.toNat
            rw [show ((y.toNat : Nat) : Int) % 2 = y % 2 by omega] at hx
            obtain ⟨M, hM⟩ : ∃ M, M = N + y.toNat := ⟨_, rfl⟩
            rw [← hM] at hx
            have HE := hid (show bitS a.toNat (j + 1) = bitS a.toNat j + a.toNat / 2 ^ j % 2 from rfl)
            have HH := hid (half_pow a.toNat j)
            have HM := hid hM
            clear hM
            go_wp2
            refine ⟨⟨j + 1, bitS a.toNat (j + 1) + n0, y / 2, by omega, by omega, rfl, ?_, hid (Nat.add_comm _ _), hid ?_⟩, ?_⟩
            · congr 1; have h1 := HM.out; have h2 := HE.out; have h3 := HN.out; have h4 := HY.out; omega
            · rw [← HH.out, ← HY.out]; omega
            · simp [intOf] <;> omega
          · have hz : a.toNat / 2 ^ j = 0 := by have := HY.out; omega
            have HE := hid (show N = parS a b c (0 + 1) from by rw [HN.out, HS.out]; unfold parB; rw [bitS_end _ hz hj])
            clear hz
            go_wp2
            refine ⟨⟨0 + 1, by omega, rfl, by rw [HE.out]⟩, ?_⟩
            simp [intOf]
      · have HS := hid (show parS a b c (1 + 1) = parS a b c 1 + parB b from by simp [parS])
        have hix : ∀ w', (Instr.index 166 (.agg #[.int .i64 a, .int .i64 b, .int .i64 c]) (.int .i64 1)).run Tryz.prog w' = .ok (.int .i64 b) w' := fun _ => by kernel_rfl
        obtain ⟨n0, hn0⟩ : ∃ n0, n0 = parS a b c 1 := ⟨_, rfl⟩
        rw [← hn0] at HS ⊢
        clear hn0
        try rw [show ((1 : Nat) : Int) = 1 from rfl]
        have hdec : decide ((1 : Int) < 3) = true := rfl
        go_wp2
        go_loop [3, 5] (fun nv xv => ∃ (j N : Nat) (y : Int), j ≤ 63 ∧ y ≤ 9223372036854775807 ∧ xv = .int .i64 y ∧ nv = .int .i64 ((N : Int) % 2) ∧ Hid (N = n0 + bitS b.toNat j) ∧ Hid (y.toNat = b.toNat / 2 ^ j)) (fun _ xv => (intOf xv).toNat)
        case atStart => exact ⟨0, n0, b, by omega, HB.out.2, rfl, rfl, hid rfl, hid (by simp)⟩
        case round =>
          obtain ⟨j, N, y, hj, hy, rfl, rfl, HN, HY⟩ := hrel
          by_cases hpos : 0 < y
          · have hj63 : j < 63 := by
              refine Classical.byContradiction fun hc => ?_
              obtain rfl : j = 63 := by omega
              have := HY.out
              rw [top63 HB.out.2] at this
              omega
            have ha := and1 y
            have hx := xor_bits N y.toNat
            rw [show ((y.toNat : Nat) : Int) % 2 = y % 2 by omega] at hx
            obtain ⟨M, hM⟩ : ∃ M, M = N + y.toNat := ⟨_, rfl⟩
            rw [← hM] at hx
            have HE := hid (show bitS b.toNat (j + 1) = bitS b.toNat j + b.toNat / 2 ^ j % 2 from rfl)
            have HH := hid (half_pow b.toNat j)
            have HM := hid hM
            clear hM
            go_wp2
            refine ⟨⟨j + 1, bitS b.toNat (j + 1) + n0, y / 2, by omega, by omega, rfl, ?_, hid (Nat.add_comm _ _), hid ?_⟩, ?_⟩
            · congr 1; have h1 := HM.out; have h2 := HE.out; have h3 := HN.out; have h4 := HY.out; omega
            · rw [← HH.out, ← HY.out]; omega
            · simp [intOf] <;> omega
          · have hz : b.toNat / 2 ^ j = 0 := by have := HY.out; omega
            have HE := hid (show N = parS a b c (1 + 1) from by rw [HN.out, HS.out]; unfold parB; rw [bitS_end _ hz hj])
            clear hz
            go_wp2
            refine ⟨⟨1 + 1, by omega, rfl, by rw [HE.out]⟩, ?_⟩
            simp [intOf]
      · have HS := hid (show parS a b c (2 + 1) = parS a b c 2 + parB c from by simp [parS])
        have hix : ∀ w', (Instr.index 166 (.agg #[.int .i64 a, .int .i64 b, .int .i64 c]) (.int .i64 2)).run Tryz.prog w' = .ok (.int .i64 c) w' := fun _ => by kernel_rfl
        obtain ⟨n0, hn0⟩ : ∃ n0, n0 = parS a b c 2 := ⟨_, rfl⟩
        rw [← hn0] at HS ⊢
        clear hn0
        try rw [show ((2 : Nat) : Int) = 2 from rfl]
        have hdec : decide ((2 : Int) < 3) = true := rfl
        go_wp2
        go_loop [3, 5] (fun nv xv => ∃ (j N : Nat) (y : Int), j ≤ 63 ∧ y ≤ 9223372036854775807 ∧ xv = .int .i64 y ∧ nv = .int .i64 ((N : Int) % 2) ∧ Hid (N = n0 + bitS c.toNat j) ∧ Hid (y.toNat = c.toNat / 2 ^ j)) (fun _ xv => (intOf xv).toNat)
        case atStart => exact ⟨0, n0, c, by omega, HC.out.2, rfl, rfl, hid rfl, hid (by simp)⟩
        case round =>
          obtain ⟨j, N, y, hj, hy, rfl, rfl, HN, HY⟩ := hrel
          by_cases hpos : 0 < y
          · have hj63 : j < 63 := by
              refine Classical.byContradiction fun hc => ?_
              obtain rfl : j = 63 := by omega
              have := HY.out
              rw [top63 HC.out.2] at this
              omega
            have ha := and1 y
            have hx := xor_bits N y.toNat
            rw [show ((y.toNat : Nat) : Int) % 2 = y % 2 by omega] at hx
            obtain ⟨M, hM⟩ : ∃ M, M = N + y.toNat := ⟨_, rfl⟩
            rw [← hM] at hx
            have HE := hid (show bitS c.toNat (j + 1) = bitS c.toNat j + c.toNat / 2 ^ j % 2 from rfl)
            have HH := hid (half_pow c.toNat j)
            have HM := hid hM
            clear hM
            go_wp2
            refine ⟨⟨j + 1, bitS c.toNat (j + 1) + n0, y / 2, by omega, by omega, rfl, ?_, hid (Nat.add_comm _ _), hid ?_⟩, ?_⟩
            · congr 1; have h1 := HM.out; have h2 := HE.out; have h3 := HN.out; have h4 := HY.out; omega
            · rw [← HH.out, ← HY.out]; omega
            · simp [intOf] <;> omega
          · have hz : c.toNat / 2 ^ j = 0 := by have := HY.out; omega
            have HE := hid (show N = parS a b c (2 + 1) from by rw [HN.out, HS.out]; unfold parB; rw [bitS_end _ hz hj])
            clear hz
            go_wp2
            refine ⟨⟨2 + 1, by omega, rfl, by rw [HE.out]⟩, ?_⟩
            simp [intOf]
    · obtain rfl : k = 3 := by omega
      go_wp2
      go_ret
      exact ⟨by rw [HP.out]; rfl, B0.out⟩
set_option maxHeartbeats 4000000 in
theorem refParity_any (ps : List Int) (w : World) (hl : ps.length = 25) (hw : W64 ps) :
    Calls Tryz.prog 33 #[.agg (agi ps)] w fun e w' => e = .returned (.int .i64 (pkPar ps)) ∧ Below w.heap.size w w' := by
  have P0 := IB.new w 38 ps
  have B0 := ((Below.refl w.heap.size w).alloc (Nat.le_refl _) (.cells (agi ps) 38))
  have c0 := IB.cell P0 0 (by omega)
  have c1 := IB.cell P0 9 (by omega)
  have c2 := IB.cell P0 17 (by omega)
  have HA := hw.at_ 0
  have HB := hw.at_ 9
  have HC := hw.at_ 17
  have HP := hid (show pkPar ps = ((parB (ps.getD 0 0) + parB (ps.getD 9 0) + parB (ps.getD 17 0)) % 2 : Nat) from rfl)
  obtain ⟨a, ha⟩ : ∃ a, a = ps.getD 0 0 := ⟨_, rfl⟩
  obtain ⟨b, hb⟩ : ∃ b, b = ps.getD 9 0 := ⟨_, rfl⟩
  obtain ⟨c, hc⟩ : ∃ c, c = ps.getD 17 0 := ⟨_, rfl⟩
  rw [← ha] at c0 HA HP
  rw [← hb] at c1 HB HP
  rw [← hc] at c2 HC HP
  obtain ⟨V, hV⟩ : ∃ V, V = w.alloc (.cells (agi ps) 38) := ⟨_, rfl⟩
  have SV : V.heap.size = w.heap.size + 1 := by rw [hV]; simp
  rw [← hV] at c0 c1 c2 B0
  have B0 := hid (B0.alloc (by omega) (.cells #[.int .i64 a, .int .i64 b, .int .i64 c] 3))
  have HV := hid hV
  have HA := hid HA
  have HB := hid HB
  have HC := hid HC
  have L0 := hid (Blk.new V 3 #[.int .i64 a, .int .i64 b, .int .i64 c])
  clear ha hb hc hV hw hl P0 SV
  go_enter Tryz.func33, Tryz.ntmps33
  go_wp2_with (rw [← HV.out]; clear HV)
  obtain ⟨g, hg⟩ : ∃ g, g = V.heap.size := ⟨_, rfl⟩
  obtain ⟨V2, hV2⟩ : ∃ V2, V2 = V.alloc (.cells #[.int .i64 a, .int .i64 b, .int .i64 c] 3) := ⟨_, rfl⟩
  rw [← hg, ← hV2] at L0 ⊢
  rw [← hV2] at B0
  have k0 : V2.cell? ⟨g, 0, none⟩ = some (.int .i64 a) := Blk.cell L0.out 0
  have k1 : V2.cell? ⟨g, 1, none⟩ = some (.int .i64 b) := Blk.cell L0.out 1
  have k2 : V2.cell? ⟨g, 2, none⟩ = some (.int .i64 c) := Blk.cell L0.out 2
  clear hg hV2 c0 c1 c2
  go_loop [3, 19] (fun nv iv => ∃ k : Nat, k ≤ 3 ∧ iv = .int .i64 k ∧ nv = .int .i64 (parS a b c k : Nat)) (fun _ iv => 3 - (intOf iv).toNat)
  case atStart => exact ⟨0, by omega, rfl, rfl⟩
  case round =>
    obtain ⟨k, hk, rfl, rfl⟩ := hrel
    by_cases hlt : k < 3
    · obtain rfl | rfl | rfl : k = 0 ∨ k = 1 ∨ k = 2 := by omega
      · have HS := hid (show parS a b c (0 + 1) = parS a b c 0 + parB a from by simp [parS])
        obtain ⟨n0, hn0⟩ : ∃ n0, n0 = parS a b c 0 := ⟨_, rfl⟩
        have hn9 : n0 ≤ 189 := by rw [hn0]; unfold parS; have := parB_le a; have := parB_le b; have := parB_le c; split <;> split <;> split <;> omega
        rw [← hn0] at HS ⊢
        clear hn0
        try rw [show ((0 : Nat) : Int) = 0 from rfl]
        have hdec : decide ((0 : Int) < 3) = true := rfl
        go_wp2
        go_loop [3, 6] (fun nv kv => ∃ (j N : Nat), j ≤ 63 ∧ kv = .int .u64 j ∧ nv = .int .i64 (N : Nat) ∧ Hid (N = n0 + bitS a.toNat j) ∧ Hid (0 < j → 0 < a)) (fun _ kv => 63 - (intOf kv).toNat)
        case atStart => exact ⟨0, n0, by omega, rfl, rfl, hid rfl, hid (fun h => by omega)⟩
        case round =>
          obtain ⟨j, N, hj, rfl, rfl, HN, HJ⟩ := hrel
          have hxr := HA.out
          by_cases hpos : 0 < a
          · have d0 : decide (0 < a) = true := by simpa using hpos
            by_cases hj63 : j < 63
            · have d1 : decide ((j : Int) < 63) = true := by simp; omega
              have j0 : (0 : Int) ≤ j := by omega
              have j64 : (j : Int) < 64 := by omega
              have hle : bitS a.toNat j ≤ 63 := Nat.le_trans (bitS_le _ _) hj
              have hn : N ≤ 300 := by have := HN.out; omega
              obtain ⟨q, hq⟩ : ∃ q : Nat, q = a.toNat / 2 ^ j := ⟨_, rfl⟩
              have hq2 : a / 2 ^ j = (q : Nat) := by
                rw [hq]
                obtain ⟨X, hX⟩ : ∃ X : Nat, a = X := ⟨a.toNat, by omega⟩
                rw [hX]
                simp
              have HE := hid (show bitS a.toNat (j + 1) = bitS a.toNat j + q % 2 from by rw [hq]; rfl)
              clear hq hle
              go_wp2
              refine ⟨⟨j + 1, N + q % 2, by omega, by go_num, by push_cast; rfl, hid ?_, hid (fun _ => hpos)⟩, ?_⟩
              · rw [HE.out, HN.out, Nat.add_assoc]
              · simp [intOf] <;> omega
            · obtain rfl : j = 63 := by omega
              have d1 : decide (((63 : Nat) : Int) < 63) = false := rfl
              have hE : N = parS a b c (0 + 1) := by rw [HN.out, HS.out]; rfl
              try rw [show ((63 : Nat) : Int) = 63 from rfl]
              go_wp2
              refine ⟨⟨0 + 1, by omega, rfl, by rw [hE]⟩, ?_⟩
              simp [intOf]
          · obtain rfl : j = 0 := by
              refine Classical.byContradiction fun hc => ?_
              exact hpos (HJ.out (by omega))
            have d0 : decide (0 < a) = false := by simpa using hpos
            have hE : N = parS a b c (0 + 1) := by
              rw [HN.out, HS.out]
              unfold parB
              rw [bitS_end a.toNat (j := 0) (m := 63) (by rw [show a.toNat = 0 by omega]) (by omega)]
            go_wp2
            refine ⟨⟨0 + 1, by omega, rfl, by rw [hE]⟩, ?_⟩
            simp [intOf]
      · have HS := hid (show parS a b c (1 + 1) = parS a b c 1 + parB b from by simp [parS])
        obtain ⟨n0, hn0⟩ : ∃ n0, n0 = parS a b c 1 := ⟨_, rfl⟩
        have hn9 : n0 ≤ 189 := by rw [hn0]; unfold parS; have := parB_le a; have := parB_le b; have := parB_le c; split <;> split <;> split <;> omega
        rw [← hn0] at HS ⊢
        clear hn0
        try rw [show ((1 : Nat) : Int) = 1 from rfl]
        have hdec : decide ((1 : Int) < 3) = true := rfl
        go_wp2
        go_loop [3, 6] (fun nv kv => ∃ (j N : Nat), j ≤ 63 ∧ kv = .int .u64 j ∧ nv = .int .i64 (N : Nat) ∧ Hid (N = n0 + bitS b.toNat j) ∧ Hid (0 < j → 0 < b)) (fun _ kv => 63 - (intOf kv).toNat)
        case atStart => exact ⟨0, n0, by omega, rfl, rfl, hid rfl, hid (fun h => by omega)⟩
        case round =>
          obtain ⟨j, N, hj, rfl, rfl, HN, HJ⟩ := hrel
          have hxr := HB.out
          by_cases hpos : 0 < b
          · have d0 : decide (0 < b) = true := by simpa using hpos
            by_cases hj63 : j < 63
            · have d1 : decide ((j : Int) < 63) = true := by simp; omega
              have j0 : (0 : Int) ≤ j := by omega
              have j64 : (j : Int) < 64 := by omega
              have hle : bitS b.toNat j ≤ 63 := Nat.le_trans (bitS_le _ _) hj
              have hn : N ≤ 300 := by have := HN.out; omega
              obtain ⟨q, hq⟩ : ∃ q : Nat, q = b.toNat / 2 ^ j := ⟨_, rfl⟩
              have hq2 : b / 2 ^ j = (q : Nat) := by
                rw [hq]
                obtain ⟨X, hX⟩ : ∃ X : Nat, b = X := ⟨b.toNat, by omega⟩
                rw [hX]
                simp
              have HE := hid (show bitS b.toNat (j + 1) = bitS b.toNat j + q % 2 from by rw [hq]; rfl)
              clear hq hle
              go_wp2
              refine ⟨⟨j + 1, N + q % 2, by omega, by go_num, by push_cast; rfl, hid ?_, hid (fun _ => hpos)⟩, ?_⟩
              · rw [HE.out, HN.out, Nat.add_assoc]
              · simp [intOf] <;> omega
            · obtain rfl : j = 63 := by omega
              have d1 : decide (((63 : Nat) : Int) < 63) = false := rfl
              have hE : N = parS a b c (1 + 1) := by rw [HN.out, HS.out]; rfl
              try rw [show ((63 : Nat) : Int) = 63 from rfl]
              go_wp2
              refine ⟨⟨1 + 1, by omega, rfl, by rw [hE]⟩, ?_⟩
              simp [intOf]
          · obtain rfl : j = 0 := by
              refine Classical.byContradiction fun hc => ?_
              exact hpos (HJ.out (by omega))
            have d0 : decide (0 < b) = false := by simpa using hpos
            have hE : N = parS a b c (1 + 1) := by
              rw [HN.out, HS.out]
              unfold parB
              rw [bitS_end b.toNat (j := 0) (m := 63) (by rw [show b.toNat = 0 by omega]) (by omega)]
            go_wp2
            refine ⟨⟨1 + 1, by omega, rfl, by rw [hE]⟩, ?_⟩
            simp [intOf]
      · have HS := hid (show parS a b c (2 + 1) = parS a b c 2 + parB c from by simp [parS])
        obtain ⟨n0, hn0⟩ : ∃ n0, n0 = parS a b c 2 := ⟨_, rfl⟩
        have hn9 : n0 ≤ 189 := by rw [hn0]; unfold parS; have := parB_le a; have := parB_le b; have := parB_le c; split <;> split <;> split <;> omega
        rw [← hn0] at HS ⊢
        clear hn0
        try rw [show ((2 : Nat) : Int) = 2 from rfl]
        have hdec : decide ((2 : Int) < 3) = true := rfl
        go_wp2
        go_loop [3, 6] (fun nv kv => ∃ (j N : Nat), j ≤ 63 ∧ kv = .int .u64 j ∧ nv = .int .i64 (N : Nat) ∧ Hid (N = n0 + bitS c.toNat j) ∧ Hid (0 < j → 0 < c)) (fun _ kv => 63 - (intOf kv).toNat)
        case atStart => exact ⟨0, n0, by omega, rfl, rfl, hid rfl, hid (fun h => by omega)⟩
        case round =>
          obtain ⟨j, N, hj, rfl, rfl, HN, HJ⟩ := hrel
          have hxr := HC.out
          by_cases hpos : 0 < c
          · have d0 : decide (0 < c) = true := by simpa using hpos
            by_cases hj63 : j < 63
            · have d1 : decide ((j : Int) < 63) = true := by simp; omega
              have j0 : (0 : Int) ≤ j := by omega
              have j64 : (j : Int) < 64 := by omega
              have hle : bitS c.toNat j ≤ 63 := Nat.le_trans (bitS_le _ _) hj
              have hn : N ≤ 300 := by have := HN.out; omega
              obtain ⟨q, hq⟩ : ∃ q : Nat, q = c.toNat / 2 ^ j := ⟨_, rfl⟩
              have hq2 : c / 2 ^ j = (q : Nat) := by
                rw [hq]
                obtain ⟨X, hX⟩ : ∃ X : Nat, c = X := ⟨c.toNat, by omega⟩
                rw [hX]
                simp
              have HE := hid (show bitS c.toNat (j + 1) = bitS c.toNat j + q % 2 from by rw [hq]; rfl)
              clear hq hle
              go_wp2
              refine ⟨⟨j + 1, N + q % 2, by omega, by go_num, by push_cast; rfl, hid ?_, hid (fun _ => hpos)⟩, ?_⟩
              · rw [HE.out, HN.out, Nat.add_assoc]
              · simp [intOf] <;> omega
            · obtain rfl : j = 63 := by omega
              have d1 : decide (((63 : Nat) : Int) < 63) = false := rfl
              have hE : N = parS a b c (2 + 1) := by rw [HN.out, HS.out]; rfl
              try rw [show ((63 : Nat) : Int) = 63 from rfl]
              go_wp2
              refine ⟨⟨2 + 1, by omega, rfl, by rw [hE]⟩, ?_⟩
              simp [intOf]
          · obtain rfl : j = 0 := by
              refine Classical.byContradiction fun hc => ?_
              exact hpos (HJ.out (by omega))
            have d0 : decide (0 < c) = false := by simpa using hpos
            have hE : N = parS a b c (2 + 1) := by
              rw [HN.out, HS.out]
              unfold parB
              rw [bitS_end c.toNat (j := 0) (m := 63) (by rw [show c.toNat = 0 by omega]) (by omega)]
            go_wp2
            refine ⟨⟨2 + 1, by omega, rfl, by rw [hE]⟩, ?_⟩
            simp [intOf]
    · obtain rfl : k = 3 := by omega
      have hp3 : parS a b c 3 = parB a + parB b + parB c := rfl
      rw [hp3]
      generalize parB a + parB b + parB c = m at *
      go_wp2
      go_ret
      exact ⟨by rw [HP.out]; rfl, B0.out⟩
end Go.Proofs.YthoiikkjjaldnaaGreatDoor

/- The walk of the closure that puts bits into bytes. -/
namespace Go.Proofs.YthoiikkjjaldnaaGreatDoor
set_option linter.unusedVariables false
set_option linter.unusedSimpArgs false
set_option maxRecDepth 100000
open Go.RowKit

theorem digL_len (V : Nat) : (digL V).length = 14 := by simp [digL]
theorem digL_get (V : Nat) {j : Nat} (hj : j < 14) : (digL V)[j]? = some (digE V (8 * (13 - j)) : Int) := by
  unfold digL
  simp [hj]
theorem digL_put (V : Nat) {u j q P : Nat} (hu : u ≤ 1) (hj : j < 14) (hq : q < 8) (hP : P = 8 * (13 - j) + q) : (digL V).set j ((digE V (8 * (13 - j)) ||| u <<< q : Nat) : Int) = digL (V ||| u <<< P) := by
  refine List.ext_getElem? fun i => ?_
  by_cases hi : i < 14
  · rw [List.getElem?_set, digL_get _ hi, digL_get _ hi, digL_len]
    by_cases e : j = i
    · subst e
      rw [if_pos rfl, if_pos hj, digE_put hu (by omega) (by omega), show P - 8 * (13 - j) = q by omega]
    · rw [if_neg e, digE_far hu (by omega)]
  · rw [List.getElem?_eq_none (by rw [List.length_set, digL_len]; omega), List.getElem?_eq_none (by rw [digL_len]; omega)]

/-- TwoP blocks may have changed, and there may be new ones. -/
structure TwoP (g h : Nat) (w w' : World) : Prop where
  os : w'.os = w.os
  tape : w'.tape = w.tape
  output : w'.output = w.output
  size : w.heap.size ≤ w'.heap.size
  keep : ∀ k, k < w.heap.size → k ≠ g → k ≠ h → w'.heap[k]? = w.heap[k]?
section
variable {g h : Nat} {w w1 w2 : World}
theorem TwoP.refl (g h : Nat) (w : World) : TwoP g h w w := ⟨rfl, rfl, rfl, Nat.le_refl _, fun _ _ _ _ => rfl⟩
theorem TwoP.trans (a : TwoP g h w w1) (b : TwoP g h w1 w2) : TwoP g h w w2 :=
  ⟨b.os.trans a.os, b.tape.trans a.tape, b.output.trans a.output, Nat.le_trans a.size b.size, fun k h1 h2 h3 => (b.keep k (Nat.lt_of_lt_of_le h1 a.size) h2 h3).trans (a.keep k h1 h2 h3)⟩
theorem TwoP.of_below (hb : Below w.heap.size w w1) : TwoP g h w w1 := ⟨hb.os, hb.tape, hb.output, hb.size, fun k h1 _ _ => hb.block k h1⟩
theorem TwoP.set1 (a : TwoP g h w w1) (i : Nat) (v : Value) : TwoP g h w (w1.setCell ⟨g, i, none⟩ v) :=
  ⟨a.os, a.tape, a.output, by simpa [World.setCell] using a.size, fun k h1 h2 h3 => (Below.heap_setCell w1 _ v k h2).trans (a.keep k h1 h2 h3)⟩
theorem TwoP.set2 (a : TwoP g h w w1) (i : Nat) (v : Value) : TwoP g h w (w1.setCell ⟨h, i, none⟩ v) :=
  ⟨a.os, a.tape, a.output, by simpa [World.setCell] using a.size, fun k h1 h2 h3 => (Below.heap_setCell w1 _ v k h3).trans (a.keep k h1 h2 h3)⟩
theorem TwoP.drew (a : TwoP g h w w1) : TwoP g h w w1.drew := a.trans (TwoP.of_below ((Below.refl _ _).drew))
theorem TwoP.blk (a : TwoP g h w w1) {k : Nat} {t : TypeId} {cs : Array Value} (hb : Blk w k t cs) (h1 : k ≠ g) (h2 : k ≠ h) : Blk w1 k t cs := (a.keep k (Blk.lt hb) h1 h2).trans hb
theorem TwoP.below {B : Nat} (a : TwoP g h w w1) (hB : B ≤ w.heap.size) (h1 : B ≤ g) (h2 : B ≤ h) : Below B w w1 := ⟨a.os, a.tape, a.output, a.size, fun k hk => a.keep k (by omega) (by omega) (by omega)⟩
end
/-- The bytes so far. -/
def pkL (V : Nat) : List Int := digL V ++ [0]
/-- What the packing keeps: the bytes, their variable, how many bits there are. -/
structure Pst (gb gB gA V n : Nat) (W : World) : Prop where
  R : Blk W gb 5 (bts (pkL V)).toArray
  B : Blk W gB 26 #[.slice (some ⟨gb, 0, none⟩) 15 15]
  A : Blk W gA 3 #[.int .i64 (n : Nat)]
  l1 : gb < gB
  l2 : gB < gA
section
variable {gb gB gA V n : Nat} {W W' : World}
theorem Pst.below (s : Pst gb gB gA V n W) (hb : Below W.heap.size W W') : Pst gb gB gA V n W' := ⟨Blk.below' s.R hb, Blk.below' s.B hb, Blk.below' s.A hb, s.l1, s.l2⟩
theorem Pst.drew (s : Pst gb gB gA V n W) : Pst gb gB gA V n W.drew := ⟨s.R, s.B, s.A, s.l1, s.l2⟩
theorem Pst.cell (s : Pst gb gB gA V n W) {j : Nat} (hj : j < 14) : W.cell? ⟨gb, j, none⟩ = some (.int .u8 (digE V (8 * (13 - j)) : Nat)) := by
  rw [Blk.cell s.R j]
  simp only [bts, pkL, List.getElem?_toArray, List.getElem?_map]
  rw [List.getElem?_append_left (by rw [digL_len]; exact hj), digL_get V hj]
  rfl
theorem Pst.put (s : Pst gb gB gA V n W) {u j q P : Nat} (hu : u ≤ 1) (hj : j < 14) (hq : q < 8) (hP : P = 8 * (13 - j) + q) (m : Nat) :
    Pst gb gB gA (V ||| u <<< P) m ((W.setCell ⟨gb, j, none⟩ (.int .u8 ((digE V (8 * (13 - j)) ||| u <<< q : Nat) : Int))).setCell ⟨gA, 0, none⟩ (.int .i64 (m : Nat))) := by
  have h1 := s.l1
  have h2 := s.l2
  refine ⟨?_, ?_, ?_, h1, h2⟩
  · have a := (Blk.set_ s.R j (.int .u8 ((digE V (8 * (13 - j)) ||| u <<< q : Nat) : Int))).far (p := ⟨gA, 0, none⟩) (by show gb ≠ gA; omega) (.int .i64 (m : Nat))
    have e : (bts (pkL V)).toArray.setIfInBounds j (.int .u8 ((digE V (8 * (13 - j)) ||| u <<< q : Nat) : Int)) = (bts (pkL (V ||| u <<< P))).toArray := by
      unfold pkL
      rw [← digL_put V hu hj hq hP, List.setIfInBounds_toArray]
      unfold bts
      rw [← List.map_set, List.set_append_left _ _ (by rw [digL_len]; exact hj)]
    rw [e] at a
    exact a
  · exact (Blk.far s.B (p := ⟨gb, j, none⟩) (by show gB ≠ gb; omega) _).far (p := ⟨gA, 0, none⟩) (by show gB ≠ gA; omega) _
  · have a := Blk.set_ (Blk.far s.A (p := ⟨gb, j, none⟩) (by show gA ≠ gb; omega) (.int .u8 ((digE V (8 * (13 - j)) ||| u <<< q : Nat) : Int))) 0 (.int .i64 (m : Nat))
    exact a
end
set_option maxHeartbeats 4000000 in
theorem put_any (gb gB gA V a v n : Nat) (w : World) (S : Pst gb gB gA V a w) (hn : n ≤ 62) (hv : v < 2 ^ n) (ha : a + n ≤ 112) :
    Calls Tryz.prog 108 #[.int .i64 v, .int .i64 n, .pointer (some ⟨gB, 0, none⟩), .pointer (some ⟨gA, 0, none⟩)] w
      (fun e w' => e = .returned (.tuple #[]) ∧ Pst gb gB gA (V ||| v <<< (112 - a - n)) (a + n) w' ∧ TwoP gb gA w w') := by
  have S0 := hid (show Pst gb gB gA (V ||| (v >>> n) <<< (112 - a)) a w from by
    rw [Nat.shiftRight_eq_div_pow, Nat.div_eq_of_lt hv, Nat.zero_shiftLeft, Nat.or_zero]
    exact S)
  have hn1 : IntKind.i64.wrap ((n : Int) - 1) = (n : Int) - 1 := by rw [IntKind.wrap_i64]; omega
  clear S
  go_enter Tryz.func108, Tryz.ntmps108
  go_wp2
  go_loopw [6] (fun iv wr => ∃ m k : Nat, m + k = n ∧ iv = .int .i64 ((k : Int) - 1) ∧ Hid (Pst gb gB gA (V ||| (v >>> k) <<< (112 - a - m)) (a + m) wr) ∧ Hid (TwoP gb gA w wr)) (fun iv _ => (intOf iv + 1).toNat)
  case atStart => exact ⟨0, n, by omega, rfl, S0, hid (TwoP.refl _ _ _)⟩
  case round =>
    clear S0
    obtain ⟨m, k, hmk, rfl, HS, HT⟩ := hrel
    by_cases hlt : 0 < k
    · obtain ⟨K, rfl⟩ : ∃ K, k = K + 1 := ⟨k - 1, by omega⟩
      have hsub : ((K + 1 : Nat) : Int) - 1 = K := by omega
      rw [hsub]
      clear hsub
      obtain ⟨A, hA⟩ : ∃ A, A = a + m := ⟨_, rfl⟩
      have hA112 : A < 112 := by omega
      obtain ⟨j, hj⟩ : ∃ j, j = A / 8 := ⟨_, rfl⟩
      obtain ⟨q, hq⟩ : ∃ q, q = 7 - A % 8 := ⟨_, rfl⟩
      obtain ⟨P, hP⟩ : ∃ P, P = 112 - a - (m + 1) := ⟨_, rfl⟩
      have hj14 : j < 14 := by omega
      have hq8 : q < 8 := by omega
      have hPe : P = 8 * (13 - j) + q := by omega
      have hP1 : 112 - a - m = P + 1 := by omega
      rw [hP1, ← hA] at HS
      obtain ⟨y, hy⟩ : ∃ y, y = v >>> K := ⟨_, rfl⟩
      obtain ⟨u, hu⟩ : ∃ u, u = y % 2 := ⟨_, rfl⟩
      have hu1 : u ≤ 1 := by omega
      have HV := hid (show (V ||| (v >>> (K + 1)) <<< (P + 1)) ||| (u <<< P) = V ||| (v >>> K) <<< P from by rw [hu, hy]; exact put_bit V v K P)
      obtain ⟨X, hX⟩ : ∃ X, X = V ||| (v >>> (K + 1)) <<< (P + 1) := ⟨_, rfl⟩
      rw [← hX] at HS HV
      have cb := HS.out.cell hj14
      have fb := Blk.frozen HS.out.R j
      have cB : wr.cell? ⟨gB, 0, none⟩ = some (.slice (some ⟨gb, 0, none⟩) 15 15) := Blk.cell HS.out.B 0
      have cA : wr.cell? ⟨gA, 0, none⟩ = some (.int .i64 (A : Nat)) := Blk.cell HS.out.A 0
      have l1 := HS.out.l1
      have l2 := HS.out.l2
      have SN := hid (fun (W : World) (h : Pst gb gB gA X A W) => Pst.put h hu1 hj14 hq8 hPe (A + 1))
      obtain ⟨e0, he0⟩ : ∃ e0, e0 = digE X (8 * (13 - j)) := ⟨_, rfl⟩
      have he256 : e0 < 256 := by rw [he0]; exact digE_lt _ _
      rw [← he0] at cb SN
      obtain ⟨z, hz⟩ : ∃ z, z = u <<< q := ⟨_, rfl⟩
      have hz256 : z < 256 := by
        rw [hz, Nat.shiftLeft_eq]
        have h1 : u * 2 ^ q ≤ 1 * 2 ^ q := Nat.mul_le_mul_right _ hu1
        have h2 : 2 ^ q ≤ 2 ^ 7 := Nat.pow_le_pow_right (by decide) (by omega)
        omega
      rw [← hz] at SN
      have hz2 : (u : Int) * 2 ^ q = (z : Nat) := by rw [hz, Nat.shiftLeft_eq]; simp
      have hor := or_bytes e0 z he256 hz256
      have hyd : (v : Int) / 2 ^ K = (y : Nat) := by rw [hy, Nat.shiftRight_eq_div_pow]; simp
      have hand := and1 (y : Nat)
      have hu2 : ((y : Nat) : Int) % 2 = (u : Nat) := by omega
      rw [hu2] at hand
      have hdj : (A : Int) / 8 = (j : Nat) := by omega
      have hdr : IntKind.i64.wrap (7 - (A : Int) % 8) = (q : Nat) := by rw [IntKind.wrap_i64]; omega
      have hu8 : IntKind.u8.wrap ((u : Nat) : Int) = (u : Nat) := by rw [IntKind.wrap_u8]; omega
      have hz8 : IntKind.u8.wrap ((z : Nat) : Int) = (z : Nat) := by rw [IntKind.wrap_u8]; omega
      have hqu : IntKind.u64.wrap ((q : Nat) : Int) = (q : Nat) := by rw [IntKind.wrap_u64]; omega
      have hKu : IntKind.u64.wrap ((K : Nat) : Int) = (K : Nat) := by rw [IntKind.wrap_u64]; omega
      have K0 : (0 : Int) ≤ K := by omega
      have K64 : (K : Int) < 64 := by omega
      have q0 : (0 : Int) ≤ q := by omega
      have q64 : (q : Int) < 64 := by omega
      have j0 : (0 : Int) ≤ j := by omega
      have j15 : (j : Int) < 15 := by omega
      have hA1 : IntKind.i64.wrap ((A : Int) + 1) = (A : Int) + 1 := by rw [IntKind.wrap_i64]; omega
      have HAA := hid hA
      have HPP := hid hP
      clear hA hj hq hP hPe hP1 hy hu hX he0 hz
      have hne1 : ¬ gb = gA := by omega
      have hne2 : ¬ gA = gb := by omega
      have hne3 : ¬ gB = gb := by omega
      go_wp2
      go_region
      obtain ⟨W2, hW2⟩ : ∃ W2, W2 = (wr.setCell ⟨gb, j, none⟩ (.int .u8 ((e0 ||| z : Nat) : Int))).drew := ⟨_, rfl⟩
      have hW3 : W2 = wr.drew.setCell ⟨gb, j, none⟩ (.int .u8 ((e0 ||| z : Nat) : Int)) := hW2
      have BA := Blk.far (Blk.drew HS.out.A) (p := ⟨gb, j, none⟩) hne2 (.int .u8 ((e0 ||| z : Nat) : Int))
      have SE := SN.out _ HS.out.drew
      have TE := ((HT.out.drew).set1 j (.int .u8 ((e0 ||| z : Nat) : Int))).set2 0 (.int .i64 ((A + 1 : Nat) : Int))
      rw [← hW3] at BA SE TE
      rw [← hW2]
      have cA2 : W2.cell? ⟨gA, 0, none⟩ = some (.int .i64 (A : Nat)) := Blk.cell BA 0
      have fA2 : W2.frozen? ⟨gA, 0, none⟩ = false := Blk.frozen BA 0
      have SE := hid SE
      have TE := hid TE
      clear cb fb cB cA hor hyd hand hu2 hdj hdr hu8 hz8 hqu hKu hW2 hW3 BA
      go_wp2
      go_roundw
      case rel => exact ⟨m + 1, K, by omega, by congr 1, hid (by rw [← HPP.out, ← HV.out, show a + (m + 1) = A + 1 by have := HAA.out; omega]; exact SE.out), hid TE.out⟩
      case measure => simp [intOf] <;> omega
    · obtain rfl : k = 0 := by omega
      obtain rfl : m = n := by omega
      go_wp2
      go_end0
      exact ⟨rfl, by have := HS.out; rwa [Nat.shiftRight_zero] at this, HT.out⟩
end Go.Proofs.YthoiikkjjaldnaaGreatDoor

/- Plain law: the bits put one field after the other are the bits of one long number. -/
namespace Go.Proofs.YthoiikkjjaldnaaGreatDoor
set_option linter.unusedVariables false
set_option linter.unusedSimpArgs false
set_option maxRecDepth 100000
open Go.RowKit

/-- The bits of the field i. -/
def pkN (i : Nat) : Nat := (pkB.getD i 0).toNat
/-- How many bits the first n fields have. -/
def pkA : Nat → Nat
  | 0 => 0
  | n + 1 => pkA n + pkN n
def pkX (ps : List Int) : Nat → Nat
  | 0 => 0
  | n + 1 => pkX ps n * 2 ^ pkN n + (ps.getD n 0).toNat
def pkV (ps : List Int) : Nat → Nat
  | 0 => 0
  | n + 1 => pkV ps n ||| (ps.getD n 0).toNat <<< (112 - pkA n - pkN n)
theorem pkA_end : pkA 25 = 106 := by decide
theorem pkA_le {n : Nat} (h : n ≤ 25) : pkA n ≤ 106 := by
  have : ∀ m, m ≤ 25 → pkA m ≤ 106 := by decide
  exact this n h
theorem pkN_le {n : Nat} (h : n < 25) : pkN n ≤ 6 ∧ pkB.getD n 0 = (pkN n : Nat) ∧ pkT.getD n 0 < 2 ^ pkN n := by
  have : ∀ m, m < 25 → pkN m ≤ 6 ∧ pkB.getD m 0 = (pkN m : Nat) ∧ pkT.getD m 0 < 2 ^ pkN m := by decide
  exact this n h
theorem pk_lt {ps : List Int} (h : pkTo ps 25 = true) {n : Nat} (hn : n < 25) : (ps.getD n 0).toNat < 2 ^ pkN n ∧ ps.getD n 0 = ((ps.getD n 0).toNat : Nat) := by
  have h1 := pkTo_at h hn
  have h2 := (pkN_le hn).2.2
  unfold pkOk at h1
  generalize ps.getD n 0 = x at *
  generalize pkT.getD n 0 = t at *
  have e : ((2 ^ pkN n : Nat) : Int) = 2 ^ pkN n := by simp
  rw [← e] at h2
  omega
theorem shl_or (a b n : Nat) : (a ||| b) <<< n = a <<< n ||| b <<< n := by
  apply Nat.eq_of_testBit_eq
  intro i
  simp only [Nat.testBit_or, Nat.testBit_shiftLeft]
  cases decide (i ≥ n) <;> simp
theorem pkV_eq {ps : List Int} (h : pkTo ps 25 = true) : ∀ n, n ≤ 25 → pkV ps n = pkX ps n <<< (112 - pkA n)
  | 0, _ => by simp [pkV, pkX]
  | n + 1, hn => by
    have ih := pkV_eq h n (by omega)
    have hp := (pk_lt h (n := n) (by omega)).1
    have ha := pkA_le (n := n + 1) hn
    simp only [pkA] at ha
    simp only [pkV, pkX, pkA]
    rw [ih, ← Nat.shiftLeft_eq, Nat.shiftLeft_add_eq_or_of_lt hp, shl_or, ← Nat.shiftLeft_add, show pkN n + (112 - (pkA n + pkN n)) = 112 - pkA n by omega, show 112 - pkA n - pkN n = 112 - (pkA n + pkN n) by omega]
theorem pkX_lt {ps : List Int} (h : pkTo ps 25 = true) : ∀ n, n ≤ 25 → pkX ps n < 2 ^ pkA n
  | 0, _ => by simp [pkX, pkA]
  | n + 1, hn => by
    have ih := pkX_lt h n (by omega)
    have hp := (pk_lt h (n := n) (by omega)).1
    simp only [pkX, pkA]
    rw [Nat.pow_add]
    have h1 : (pkX ps n + 1) * 2 ^ pkN n ≤ 2 ^ pkA n * 2 ^ pkN n := Nat.mul_le_mul_right _ ih
    rw [Nat.add_mul, Nat.one_mul] at h1
    omega
/-- The parity as a bit. -/
def pkQ (ps : List Int) : Nat := (parB (ps.getD 0 0) + parB (ps.getD 9 0) + parB (ps.getD 17 0)) % 2
theorem pkQ_eq (ps : List Int) : pkPar ps = (pkQ ps : Nat) := rfl
/-- The 112 bits. -/
def pkW (ps : List Int) : Nat := pkV ps 25 ||| pkQ ps <<< 5
theorem pkW_eq {ps : List Int} (h : pkTo ps 25 = true) : pkW ps = (pkX ps 25 * 2 + pkQ ps) * 2 ^ 5 := by
  have hq : pkQ ps < 2 ^ 1 := Nat.mod_lt _ (by decide)
  have e : pkX ps 25 * 2 + pkQ ps = pkX ps 25 <<< 1 ||| pkQ ps := by rw [← Nat.shiftLeft_add_eq_or_of_lt hq, Nat.shiftLeft_eq]
  unfold pkW
  rw [pkV_eq h 25 (by omega), pkA_end, e, ← Nat.shiftLeft_eq, shl_or, ← Nat.shiftLeft_add]
theorem pkW_lt {ps : List Int} (h : pkTo ps 25 = true) : pkW ps < 2 ^ 112 := by
  have h1 := pkX_lt h 25 (by omega)
  rw [pkA_end] at h1
  have hq : pkQ ps < 2 := Nat.mod_lt _ (by decide)
  rw [pkW_eq h]
  omega
theorem digL_byts (V : Nat) : Byts (digL V) := fun i => by
  rw [List.getD_eq_getElem?_getD]
  by_cases h : i < 14
  · rw [digL_get V h]
    have := digE_lt V (8 * (13 - i))
    simp only [Option.getD_some]
    omega
  · rw [List.getElem?_eq_none (by rw [digL_len]; omega)]
    simp
/-- A packet's bytes. -/
def pkBytes (ps : List Int) : List Int := if pkTo ps 25 = true then digL (pkW ps) ++ [chk (digL (pkW ps))] else []
def pkErr (ps : List Int) : Int := if pkTo ps 25 = true then 0 else 2
end Go.Proofs.YthoiikkjjaldnaaGreatDoor

/- Plain law: the bits of a long number taken one field after the other. -/
namespace Go.Proofs.YthoiikkjjaldnaaGreatDoor
set_option linter.unusedVariables false
set_option linter.unusedSimpArgs false
set_option maxRecDepth 100000
open Go.RowKit

/-- The number of the first k bytes. -/
def nb (xs : List Int) : Nat → Nat
  | 0 => 0
  | k + 1 => nb xs k * 256 + (xs.getD k 0).toNat
theorem nb_lt {xs : List Int} (hx : Byts xs) (k : Nat) : nb xs k < 2 ^ (8 * k) := by
  induction k with
  | zero => simp [nb]
  | succ k ih =>
    have h := hx k
    simp only [nb]
    rw [show 8 * (k + 1) = 8 * k + 8 by omega, Nat.pow_add]
    have h2 : (nb xs k + 1) * 256 ≤ 2 ^ (8 * k) * 256 := Nat.mul_le_mul_right _ ih
    have h3 : (2 : Nat) ^ 8 = 256 := rfl
    rw [h3]
    omega
theorem nb_div {xs : List Int} (hx : Byts xs) (k d : Nat) : nb xs (k + d) / 2 ^ (8 * d) = nb xs k := by
  induction d with
  | zero => simp
  | succ d ih =>
    have h := hx (k + d)
    rw [show 8 * (d + 1) = 8 + 8 * d by omega, Nat.pow_add, ← Nat.div_div_eq_div_mul, show k + (d + 1) = (k + d) + 1 by omega]
    simp only [nb]
    rw [show (nb xs (k + d) * 256 + (xs.getD (k + d) 0).toNat) / 2 ^ 8 = nb xs (k + d) by
      have h3 : (2 : Nat) ^ 8 = 256 := rfl
      rw [h3]
      omega, ih]
theorem nb_dig {xs : List Int} (hx : Byts xs) {j : Nat} (hj : j < 14) : digE (nb xs 14) (8 * (13 - j)) = (xs.getD j 0).toNat := by
  have h := nb_div hx (j + 1) (13 - j)
  rw [show j + 1 + (13 - j) = 14 by omega] at h
  unfold digE
  rw [h]
  have h2 := hx j
  simp only [nb]
  omega
/-- n bits from place a on. -/
def gt (V a n : Nat) : Nat := V >>> (112 - a - n) % 2 ^ n
theorem gt_lt (V a n : Nat) : gt V a n < 2 ^ n := Nat.mod_lt _ (Nat.two_pow_pos n)
theorem gt_bit {V e q : Nat} (hq : q < 8) : digE V e / 2 ^ q % 2 = V >>> (e + q) % 2 := by
  apply Nat.eq_of_testBit_eq
  intro i
  rw [show (2 : Nat) = 2 ^ 1 from rfl, Nat.testBit_mod_two_pow, Nat.testBit_mod_two_pow, Nat.testBit_div_two_pow, digE_bit, Nat.testBit_shiftRight]
  by_cases h : i < 1
  · have e1 : i = 0 := by omega
    subst e1
    simp [hq]
  · simp [h]
theorem gt_step (y m : Nat) : (y / 2 % 2 ^ m) * 2 + y % 2 = y % 2 ^ (m + 1) := by
  rw [Nat.pow_succ, Nat.mul_comm (2 ^ m) 2, Nat.mod_mul]
  omega
/-- The field i. -/
def uF (V i : Nat) : Nat := gt V (pkA i) (pkN i)
/-- The numbers, the first n of them taken. -/
def uL (V n : Nat) : List Int := (List.range 25).map (fun i => if i < n then (uF V i : Int) else 0)
theorem uL_len (V n : Nat) : (uL V n).length = 25 := by simp [uL]
theorem uL_zero (V : Nat) : uL V 0 = List.replicate 25 0 := by
  refine List.ext_getElem? fun j => ?_
  by_cases hj : j < 25
  · rw [List.getElem?_replicate, if_pos hj]
    unfold uL
    simp [hj]
  · rw [List.getElem?_eq_none (by rw [uL_len]; omega), List.getElem?_eq_none (by rw [List.length_replicate]; omega)]
theorem uL_set (V : Nat) {i : Nat} (hi : i < 25) : (uL V i).set i (uF V i : Nat) = uL V (i + 1) := by
  refine List.ext_getElem? fun j => ?_
  by_cases hj : j < 25
  · rw [List.getElem?_set, uL_len]
    unfold uL
    simp only [List.getElem?_map, List.getElem?_range hj, Option.map_some]
    by_cases e : i = j
    · subst e
      rw [if_pos rfl, if_pos hi, if_pos (by omega)]
    · rw [if_neg e]
      congr 1
      by_cases h : j < i
      · rw [if_pos h, if_pos (by omega)]
      · rw [if_neg h, if_neg (by omega)]
  · rw [List.getElem?_eq_none (by rw [List.length_set, uL_len]; omega), List.getElem?_eq_none (by rw [uL_len]; omega)]
theorem uL_64 (V n : Nat) : W64 (uL V n) := by
  intro x hx
  unfold uL at hx
  obtain ⟨i, hi, rfl⟩ := List.mem_map.1 hx
  have hi25 : i < 25 := by simpa using hi
  have h1 := gt_lt V (pkA i) (pkN i)
  have h2 := (pkN_le hi25).1
  have h3 : 2 ^ pkN i ≤ 2 ^ 6 := Nat.pow_le_pow_right (by decide) h2
  unfold uF
  split <;> omega
/-- What Unpack answers. -/
def unV (xs : List Int) : Nat := nb xs 14
def unE (xs : List Int) : Int :=
  if xs.length ≠ 15 then 1 else if chk (xs.take 14) ≠ xs.getD 14 0 then 5 else if unV xs % 32 ≠ 0 then 3 else if pkTo (uL (unV xs) 25) 25 = false then 2 else if pkPar (uL (unV xs) 25) ≠ (unV xs / 32 % 2 : Nat) then 3 else 0
def unL (xs : List Int) : List Int := if unE xs = 0 then uL (unV xs) 25 else List.replicate 25 0
theorem unL_len (xs : List Int) : (unL xs).length = 25 := by
  unfold unL
  split
  · exact uL_len _ _
  · rfl
theorem gt_par (V : Nat) : gt V 106 1 = V / 32 % 2 := by
  unfold gt
  rw [Nat.shiftRight_eq_div_pow]
end Go.Proofs.YthoiikkjjaldnaaGreatDoor

/- Plain facts on a frame that comes. -/
namespace Go.Proofs.YthoiikkjjaldnaaGreatDoor
set_option linter.unusedVariables false
set_option linter.unusedSimpArgs false
set_option maxRecDepth 100000
open Go.RowKit

/-! Half a frame of speech: its numbers are the lag, the gain's, four places, the signs, the level's. -/
structure UOk (u : List Int) : Prop where
  l : u.length = 8
  a : 0 ≤ u.getD 0 0 ∧ u.getD 0 0 ≤ 59
  g : 0 ≤ u.getD 1 0 ∧ u.getD 1 0 ≤ 7
  i : ∀ j, 2 ≤ j → j < 6 → 0 ≤ u.getD j 0 ∧ u.getD j 0 ≤ 9
  s : 0 ≤ u.getD 6 0 ∧ u.getD 6 0 ≤ 15
  v : 0 ≤ u.getD 7 0 ∧ u.getD 7 0 ≤ 31
def uI (u : List Int) : List Int := (u.drop 2).take 4
theorem uI_len {u : List Int} (h : u.length = 8) : (uI u).length = 4 := by unfold uI; rw [List.length_take, List.length_drop]; omega
theorem uI_get (u : List Int) {j : Nat} (h : j < 4) : (uI u).getD j 0 = u.getD (2 + j) 0 := by
  unfold uI
  rw [List.getD_eq_getElem?_getD, List.getElem?_take, if_pos h, List.getElem?_drop, ← List.getD_eq_getElem?_getD]
def spC (u : List Int) : List Int := blL (uI u) (u.getD 6 0) (glV (u.getD 7 0))
def spX (m : Mm) (u : List Int) : List Int := mxL m.e (spC u) (20 + u.getD 0 0) (gainV (u.getD 1 0)) 40
def spM (m : Mm) (u : List Int) : Mm := { m with e := keepL m.e (spX m u), la := 20 + u.getD 0 0, pi := gainV (u.getD 1 0), ga := glV (u.getD 7 0) }
theorem gainV_range (n : Int) : 0 ≤ gainV n ∧ gainV n ≤ 18022 := by
  unfold gainV
  split
  · next h =>
    have h2 : 0 ≤ n ∧ n ≤ 7 := by unfold gainB at h; simpa using h
    obtain ⟨k, rfl⟩ := Int.eq_ofNat_of_zero_le h2.1
    have hk : k < 8 := by omega
    rw [Int.toNat_natCast]
    have : ∀ k, k < 8 → 0 ≤ gainsL.getD k 0 ∧ gainsL.getD k 0 ≤ 18022 := by decide
    exact this k hk
  · omega
theorem UOk.bl {u : List Int} (h : UOk u) : blB (uI u) (u.getD 6 0) (glV (u.getD 7 0)) = true := by
  have h1 := glV_range (u.getD 7 0)
  have h2 := h.s
  unfold blB blS
  rw [Bool.and_eq_true]
  refine ⟨decide_eq_true ⟨⟨h2.1, h2.2⟩, h1.1, h1.2⟩, ?_⟩
  have h3 : allTo okI (uI u) 4 := fun j hj => by
    rw [uI_get u hj]
    have := h.i (2 + j) (by omega) (by omega)
    exact okI_yes this.1 this.2
  exact h3.all (by rw [uI_len h.l]; exact Nat.le_refl _)
theorem spC_len {u : List Int} (h : UOk u) : (spC u).length = 40 := by unfold spC blL; rw [h.bl]; simp
theorem sp_mx {u : List Int} (h : UOk u) : mxB (20 + u.getD 0 0) (gainV (u.getD 1 0)) = true := by
  have h1 := gainV_range (u.getD 1 0)
  have h2 := h.a
  unfold mxB
  rw [pastB_yes (by omega) (by omega), Bool.true_and]
  exact decide_eq_true ⟨h1.1, by omega⟩
theorem spX_len {u : List Int} (h : UOk u) (m : Mm) : (spX m u).length = 40 := by unfold spX; rw [(mx_good (sp_mx h)).1]; simp
theorem spX_in (m : Mm) (u : List Int) : all16 (spX m u) = true := mxL_in _ _ _ _ _
theorem spM_ok {m : Mm} {u : List Int} (k : m.ok) (h : UOk u) : (spM m u).ok := ⟨k.r, k.p, keepL_len k.e (spX_len h m)⟩
theorem spM_good {m : Mm} {u : List Int} (g : goodM m = true) (h : UOk u) : goodM (spM m u) = true := by
  obtain ⟨h1, h2, h3, t1, t2, t3, t4, t5⟩ := goodM_of g
  have a1 := h.a
  exact goodM_yes h1 h2 (keepL_in h3) ⟨⟨by show 20 ≤ 20 + u.getD 0 0; omega, by show 20 + u.getD 0 0 ≤ 79; omega⟩, t2, glV_range _, gainV_range _, t5⟩
/-! Half a frame of silence. -/
theorem silM_good {m : Mm} (g : goodM m = true) : goodM (silM m) = true := by
  obtain ⟨h1, h2, h3, t1, t2, t3, t4, t5⟩ := goodM_of g
  refine goodM_yes h1 h2 (keepL_in h3) ⟨t1, ?_, t3, t4, t5⟩
  show 0 ≤ nzE m.se 40 ∧ nzE m.se 40 < 65536
  have := nzS_range (nzE m.se 39)
  rw [show (40 : Nat) = 39 + 1 from rfl, nzE_succ]
  omega
/-! A predictor that is fine; what is played. -/
def goodA (a : List Int) : Prop := okP a = true ∧ a.getD 0 0 = 4096
theorem dirL_goodA {k : List Int} (h : steadyB k = true) : goodA (dirL k) := by
  have e : dirL k = (List.range 9).map (fun i => ((dirN k 8).getD i 0 + 2048) / 4096) := by unfold dirL; rw [h]; rfl
  constructor
  · unfold okP
    rw [List.all_eq_true, e]
    intro x hx
    obtain ⟨i, _, rfl⟩ := List.mem_map.1 hx
    have := dirN_bd (steadyB_at h) (m := 8) (Nat.le_refl _) i
    exact okP1_yes (by omega) (by omega)
  · rw [e, map_range_get (fun i => ((dirN k 8).getD i 0 + 2048) / 4096) (by omega)]
    rw [show (8 : Nat) = 7 + 1 from rfl, dirN_head, show (7 : Nat) = 6 + 1 from rfl, dirN_head, show (6 : Nat) = 5 + 1 from rfl, dirN_head, show (5 : Nat) = 4 + 1 from rfl, dirN_head, show (4 : Nat) = 3 + 1 from rfl, dirN_head,
      show (3 : Nat) = 2 + 1 from rfl, dirN_head, show (2 : Nat) = 1 + 1 from rfl, dirN_head, show (1 : Nat) = 0 + 1 from rfl, dirN_head, dirN_zero]
    rfl
theorem goodA_F {a p x : List Int} (h : goodA a) (hp : all16 p = true) (hx : all16 x = true) : goodF a p x = true := by
  unfold goodF
  rw [h.1, h.2, hp, hx]; rfl
theorem play_yes {a p x : List Int} (h : goodA a) (hp : all16 p = true) (hx : all16 x = true) (hl : x.length = 40) : playP a p x = newL p (makeN a p x 40) ∧ playY a p x = makeN a p x 40 := by
  unfold playP playY
  rw [if_pos (goodA_F h hp hx), if_pos (goodA_F h hp hx), hl]
  exact ⟨rfl, rfl⟩
theorem goodM_play {m : Mm} (g : goodM m = true) (a x : List Int) (n : Nat) : goodM { m with p := newL m.p (makeN a m.p x n) } = true := by
  obtain ⟨h1, h2, h3, t⟩ := goodM_of g
  exact goodM_yes h1 (newL_all _ _ h2 (makeN_all _ _ _ _)) h3 t
/-! The numbers of a packet. -/
def refL (ps : List Int) : List Int := (ps.drop 1).take 8
def subL (ps : List Int) (s : Nat) : List Int := (ps.drop (9 + 8 * s)).take 8
theorem refL_get (ps : List Int) {j : Nat} (h : j < 8) : (refL ps).getD j 0 = ps.getD (1 + j) 0 := by
  unfold refL
  rw [List.getD_eq_getElem?_getD, List.getElem?_take, if_pos h, List.getElem?_drop, ← List.getD_eq_getElem?_getD]
theorem subL_get (ps : List Int) {s j : Nat} (h : j < 8) : (subL ps s).getD j 0 = ps.getD (9 + 8 * s + j) 0 := by
  unfold subL
  rw [List.getD_eq_getElem?_getD, List.getElem?_take, if_pos h, List.getElem?_drop, ← List.getD_eq_getElem?_getD]
theorem refL_len {ps : List Int} (h : ps.length = 25) : (refL ps).length = 8 := by unfold refL; rw [List.length_take, List.length_drop]; omega
theorem subL_len {ps : List Int} (h : ps.length = 25) {s : Nat} (hs : s < 2) : (subL ps s).length = 8 := by unfold subL; rw [List.length_take, List.length_drop]; omega
theorem subL_ok {ps : List Int} (h : pkTo ps 25 = true) (hl : ps.length = 25) {s : Nat} (hs : s < 2) : UOk (subL ps s) := by
  have k : ∀ j, j < 8 → 0 ≤ (subL ps s).getD j 0 ∧ (subL ps s).getD j 0 ≤ pkT.getD (9 + 8 * s + j) 0 := fun j hj => by
    rw [subL_get ps hj]
    exact pkTo_at h (by omega)
  have t : ∀ s, s < 2 → pkT.getD (9 + 8 * s + 0) 0 = 59 ∧ pkT.getD (9 + 8 * s + 1) 0 = 7 ∧ pkT.getD (9 + 8 * s + 6) 0 = 15 ∧ pkT.getD (9 + 8 * s + 7) 0 = 31 ∧ ∀ j, 2 ≤ j → j < 6 → pkT.getD (9 + 8 * s + j) 0 = 9 := by
    intro s hs
    have : s = 0 ∨ s = 1 := by omega
    rcases this with rfl | rfl
    · refine ⟨rfl, rfl, rfl, rfl, fun j h1 h2 => ?_⟩
      have : j = 2 ∨ j = 3 ∨ j = 4 ∨ j = 5 := by omega
      rcases this with rfl | rfl | rfl | rfl <;> rfl
    · refine ⟨rfl, rfl, rfl, rfl, fun j h1 h2 => ?_⟩
      have : j = 2 ∨ j = 3 ∨ j = 4 ∨ j = 5 := by omega
      rcases this with rfl | rfl | rfl | rfl <;> rfl
  obtain ⟨t0, t1, t6, t7, t2⟩ := t s hs
  have k0 := k 0 (by omega)
  have k1 := k 1 (by omega)
  have k6 := k 6 (by omega)
  have k7 := k 7 (by omega)
  rw [t0] at k0
  rw [t1] at k1
  rw [t6] at k6
  rw [t7] at k7
  exact ⟨subL_len hl hs, k0, k1, fun j h1 h2 => by have := k j (by omega); rw [t2 j h1 h2] at this; exact this, k6, k7⟩
theorem lv_in : ∀ i, i < 8 → ∀ n, n < 64 → -31000 ≤ lvV (i : Nat) (n : Nat) ∧ lvV (i : Nat) (n : Nat) ≤ 31000 := by decide +kernel
theorem lv_ok : ∀ i, i < 8 → ∀ n, n < 64 → ((n : Nat) : Int) ≤ pkT.getD (1 + i) 0 → lvErr (i : Nat) (n : Nat) = 0 := by decide +kernel
theorem pkT_ref : ∀ i, i < 8 → pkT.getD (1 + i) 0 ≤ 63 := by decide
def frNow (ps : List Int) : List Int := (List.range 8).map (aF lvV (refL ps))
theorem frNow_len (ps : List Int) : (frNow ps).length = 8 := by simp [frNow]
theorem refL_nat {ps : List Int} (h : pkTo ps 25 = true) {i : Nat} (hi : i < 8) : ∃ n : Nat, n < 64 ∧ (refL ps).getD i 0 = n ∧ ((n : Nat) : Int) ≤ pkT.getD (1 + i) 0 := by
  have h1 : pkOk ps (1 + i) := pkTo_at h (by omega)
  have h2 := pkT_ref i hi
  obtain ⟨n, hn⟩ := Int.eq_ofNat_of_zero_le h1.1
  have h3 := h1.2
  rw [hn] at h3
  exact ⟨n, by omega, by rw [refL_get ps hi, hn], h3⟩
theorem frNow_err {ps : List Int} (h : pkTo ps 25 = true) : ∀ n, n ≤ 8 → aE lvErr (refL ps) n = 0
  | 0, _ => rfl
  | n + 1, hn => by
    rw [aE, if_pos (frNow_err h n (by omega))]
    obtain ⟨v, hv, e, hle⟩ := refL_nat h (i := n) (by omega)
    rw [e]
    exact lv_ok n (by omega) v hv hle
theorem frNow_eq {ps : List Int} (h : pkTo ps 25 = true) : aL lvV lvErr (refL ps) = frNow ps := by
  unfold aL
  rw [if_pos (frNow_err h 8 (Nat.le_refl _))]; rfl
theorem frNow_okK {ps : List Int} (h : pkTo ps 25 = true) : (frNow ps).all okK = true := by
  unfold frNow
  rw [List.all_eq_true]
  intro x hx
  obtain ⟨i, hi, rfl⟩ := List.mem_map.1 hx
  have hi8 : i < 8 := by simpa using hi
  obtain ⟨v, hv, e, _⟩ := refL_nat h hi8
  unfold aF
  rw [e]
  have := lv_in i hi8 v hv
  exact okK_yes this.1 this.2
theorem okK_steady {k : List Int} (h : k.all okK = true) : steadyB k = true := by
  unfold steadyB
  rw [List.all_eq_true] at h ⊢
  intro x hx
  have := h x hx
  unfold okK at this
  have h2 : -31000 ≤ x ∧ x ≤ 31000 := by simpa using this
  exact okR_yes (by omega) (by omega)
/-! The predictor of a half. -/
def frA (was now : List Int) (s : Nat) : List Int := dirL (mixL was now ((2 + 2 * s : Nat) : Int))
theorem tdiv4 {x : Int} {K : Int} (h1 : -(4 * K) ≤ x) (h2 : x ≤ 4 * K) : -K ≤ x.tdiv 4 ∧ x.tdiv 4 ≤ K := by
  by_cases h : 0 ≤ x
  · rw [Int.tdiv_eq_ediv_of_nonneg h]; omega
  · have e : x.tdiv 4 = -((-x) / 4) := by
      rw [← Int.tdiv_eq_ediv_of_nonneg (show 0 ≤ -x by omega), Int.neg_tdiv, Int.neg_neg]
    rw [e]; omega
theorem mixL_steady {a b : List Int} (ha : steadyB a = true) (hb : steadyB b = true) {n : Int} (h0 : 0 ≤ n) (h4 : n ≤ 4) : steadyB (mixL a b n) = true := by
  have e : mixL a b n = (List.range 8).map (mixE a b n) := by unfold mixL mixB; rw [ha, hb]; rw [if_pos (by simp; omega)]
  rw [e]
  unfold steadyB
  rw [List.all_eq_true]
  intro x hx
  obtain ⟨i, _, rfl⟩ := List.mem_map.1 hx
  have h1 := steadyB_at ha i
  have h2 := steadyB_at hb i
  unfold mixE
  have : n = 0 ∨ n = 1 ∨ n = 2 ∨ n = 3 ∨ n = 4 := by omega
  have hb : -(4 * 32767) ≤ a.getD i 0 * (4 - n) + b.getD i 0 * n ∧ a.getD i 0 * (4 - n) + b.getD i 0 * n ≤ 4 * 32767 := by
    rcases this with rfl | rfl | rfl | rfl | rfl <;> omega
  have := tdiv4 hb.1 hb.2
  exact okR_yes (by omega) (by omega)
theorem mixL_four {a b : List Int} (ha : steadyB a = true) (hb : steadyB b = true) (hl : b.length = 8) : mixL a b 4 = b := by
  have e : mixL a b 4 = (List.range 8).map (mixE a b 4) := by unfold mixL mixB; rw [ha, hb]; rfl
  rw [e]
  refine list_ext (by simp [hl]) fun k hk => ?_
  have hk8 : k < 8 := by simpa using hk
  rw [map_range_get (mixE a b 4) hk8]
  unfold mixE
  rw [show a.getD k 0 * (4 - 4) + b.getD k 0 * 4 = b.getD k 0 * 4 by omega]
  exact Int.mul_tdiv_cancel _ (by decide)
theorem frA_good {a b : List Int} (ha : steadyB a = true) (hb : steadyB b = true) {s : Nat} (hs : s < 2) : goodA (frA a b s) := dirL_goodA (mixL_steady ha hb (by omega) (by omega))
theorem frA_len (a b : List Int) (s : Nat) : (frA a b s).length = 9 := dirL_len _
theorem frA_one {a b : List Int} (ha : steadyB a = true) (hb : steadyB b = true) (hl : b.length = 8) : frA a b 1 = dirL b := by
  unfold frA
  rw [show (((2 + 2 * 1 : Nat)) : Int) = 4 from rfl, mixL_four ha hb hl]
/-! A half. -/
def frX (q : Bool) (m : Mm) (u : List Int) : List Int := if q then nzL m.se 8 40 else spX m u
def frN (q : Bool) (m : Mm) (u : List Int) : Mm := if q then silM m else spM m u
def frP (q : Bool) (a : List Int) (m : Mm) (u : List Int) : Mm := { frN q m u with p := newL m.p (makeN a m.p (frX q m u) 40) }
def frY (q : Bool) (a : List Int) (m : Mm) (u : List Int) : List Int := makeN a m.p (frX q m u) 40
theorem frN_p (q : Bool) (m : Mm) (u : List Int) : (frN q m u).p = m.p := by unfold frN; split <;> rfl
theorem frN_r (q : Bool) (m : Mm) (u : List Int) : (frN q m u).r = m.r := by unfold frN; split <;> rfl
theorem frN_er (q : Bool) (m : Mm) (u : List Int) : (frN q m u).er = m.er := by unfold frN; split <;> rfl
theorem frN_si (q : Bool) (m : Mm) (u : List Int) : (frN q m u).si = m.si := by unfold frN; split <;> rfl
theorem frX_len (q : Bool) (m : Mm) {u : List Int} (h : UOk u) : (frX q m u).length = 40 := by
  unfold frX
  split
  · exact nzL_len _ _ _
  · exact spX_len h m
theorem frX_in (q : Bool) (m : Mm) (u : List Int) : all16 (frX q m u) = true := by
  unfold frX
  split
  · exact nzL_in _ _ _
  · exact spX_in m u
theorem frN_ok (q : Bool) {m : Mm} {u : List Int} (k : m.ok) (h : UOk u) : (frN q m u).ok := by
  unfold frN
  split
  · exact silM_ok k
  · exact spM_ok k h
theorem frN_good (q : Bool) {m : Mm} {u : List Int} (g : goodM m = true) (h : UOk u) : goodM (frN q m u) = true := by
  unfold frN
  split
  · exact silM_good g
  · exact spM_good g h
theorem Mm.ok.pp {m : Mm} (k : m.ok) {p : List Int} (hp : p.length = 8) : ({ m with p := p } : Mm).ok := ⟨k.r, hp, k.e⟩
theorem frP_ok (q : Bool) (a : List Int) {m : Mm} {u : List Int} (k : m.ok) (h : UOk u) : (frP q a m u).ok := by
  unfold frP
  exact (frN_ok q k h).pp (newL_len _ _ k.p)
theorem frP_r (q : Bool) (a : List Int) (m : Mm) (u : List Int) : (frP q a m u).r = m.r := by unfold frP; exact frN_r q m u
theorem frP_si (q : Bool) (a : List Int) (m : Mm) (u : List Int) : (frP q a m u).si = m.si := by unfold frP; exact frN_si q m u
theorem frP_er (q : Bool) (a : List Int) (m : Mm) (u : List Int) : (frP q a m u).er = m.er := by unfold frP; exact frN_er q m u
theorem frP_good (q : Bool) (a : List Int) {m : Mm} {u : List Int} (g : goodM m = true) (h : UOk u) : goodM (frP q a m u) = true := by
  have h1 := goodM_play (frN_good q g h) a (frX q m u) 40
  rw [frN_p] at h1
  unfold frP
  exact h1
theorem frY_len (q : Bool) (a : List Int) (m : Mm) (u : List Int) : (frY q a m u).length = 40 := makeN_len _ _ _ _
/-- What is played behind a half's excitation. -/
theorem frP_play (q : Bool) {a : List Int} {m : Mm} {u : List Int} (g : goodM m = true) (h : UOk u) (ha : goodA a) :
    ({ frN q m u with p := playP a (frN q m u).p (frX q m u) } : Mm) = frP q a m u ∧ playY a (frN q m u).p (frX q m u) = frY q a m u := by
  obtain ⟨_, h2, _⟩ := goodM_of g
  obtain ⟨e1, e2⟩ := play_yes (p := m.p) ha h2 (frX_in q m u) (frX_len q m h)
  rw [frN_p, e1, e2]
  exact ⟨rfl, rfl⟩
theorem frP_voice {a : List Int} {m : Mm} {u : List Int} (g : goodM m = true) (h : UOk u) (ha : goodA a) :
    ({ spM m u with p := playP a m.p (spX m u) } : Mm) = frP false a m u ∧ playY a m.p (spX m u) = frY false a m u := by
  have h1 := frP_play false g h ha
  have e1 : frN false m u = spM m u := rfl
  have e2 : frX false m u = spX m u := rfl
  have e3 : (spM m u).p = m.p := rfl
  rw [e1, e2, e3] at h1
  exact h1
theorem frP_still {a : List Int} {m : Mm} {u : List Int} (g : goodM m = true) (h : UOk u) (ha : goodA a) :
    silR m = frN true m u ∧ silY m = frX true m u ∧ ({ frN true m u with p := playP a (frN true m u).p (frX true m u) } : Mm) = frP true a m u ∧ playY a (frN true m u).p (frX true m u) = frY true a m u := by
  have h1 := frP_play true g h ha
  have e1 : frN true m u = silM m := rfl
  have e2 : frX true m u = nzL m.se 8 40 := rfl
  have e3 : silR m = silM m := by unfold silR; rw [if_pos g]
  have e4 : silY m = nzL m.se 8 40 := by unfold silY; rw [if_pos g]
  exact ⟨by rw [e3, e1], by rw [e4, e2], h1⟩
/-! The halves, one behind the other. -/
def frK (q : Bool) (was now ps : List Int) (m : Mm) : Nat → Mm
  | 0 => m
  | s + 1 => frP q (frA was now s) (frK q was now ps m s) (subL ps s)
def frZ (q : Bool) (was now ps : List Int) (m : Mm) : Nat → List Int
  | 0 => []
  | s + 1 => frZ q was now ps m s ++ frY q (frA was now s) (frK q was now ps m s) (subL ps s)
section
variable {q : Bool} {was now ps : List Int} {m : Mm}
theorem frK_ok (k : m.ok) (h : pkTo ps 25 = true) (hl : ps.length = 25) : ∀ n, n ≤ 2 → (frK q was now ps m n).ok
  | 0, _ => k
  | n + 1, hn => frP_ok q _ (frK_ok k h hl n (by omega)) (subL_ok h hl (by omega))
theorem frK_good (g : goodM m = true) (h : pkTo ps 25 = true) (hl : ps.length = 25) : ∀ n, n ≤ 2 → goodM (frK q was now ps m n) = true
  | 0, _ => g
  | n + 1, hn => frP_good q _ (frK_good g h hl n (by omega)) (subL_ok h hl (by omega))
theorem frK_r : ∀ n, (frK q was now ps m n).r = m.r
  | 0 => rfl
  | n + 1 => by rw [frK, frP_r, frK_r n]
theorem frK_si : ∀ n, (frK q was now ps m n).si = m.si
  | 0 => rfl
  | n + 1 => by rw [frK, frP_si, frK_si n]
theorem frK_er : ∀ n, (frK q was now ps m n).er = m.er
  | 0 => rfl
  | n + 1 => by rw [frK, frP_er, frK_er n]
theorem frZ_len : ∀ n, (frZ q was now ps m n).length = 40 * n
  | 0 => rfl
  | n + 1 => by rw [frZ, List.length_append, frZ_len n, frY_len]; omega
theorem frN_set (b : Bool) (m : Mm) (u : List Int) : frN q { m with si := b } u = { frN q m u with si := b } := by unfold frN; split <;> rfl
theorem frP_set (b : Bool) (a : List Int) (m : Mm) (u : List Int) : frP q a { m with si := b } u = { frP q a m u with si := b } := by
  have hx : frX q { m with si := b } u = frX q m u := by unfold frX; split <;> rfl
  unfold frP
  rw [frN_set, hx]
theorem frK_set (b : Bool) : ∀ n, frK q was now ps { m with si := b } n = { frK q was now ps m n with si := b }
  | 0 => rfl
  | n + 1 => by rw [frK, frK_set b n, frP_set, frK]
theorem frY_set (b : Bool) (a : List Int) (m : Mm) (u : List Int) : frY q a { m with si := b } u = frY q a m u := by
  have hx : frX q { m with si := b } u = frX q m u := by unfold frX; split <;> rfl
  unfold frY
  rw [hx]
theorem frZ_set (b : Bool) : ∀ n, frZ q was now ps { m with si := b } n = frZ q was now ps m n
  | 0 => rfl
  | n + 1 => by rw [frZ, frZ_set b n, frK_set, frY_set, frZ]
end
/-! The frame. -/
def frQ (ps : List Int) : Bool := decide (ps.getD 0 0 = 2)
def fr0 (m : Mm) (ps : List Int) : Mm := if ps.getD 0 0 = 1 then freshM else m
def frE (m : Mm) (ps : List Int) : Mm := frK (frQ ps) (fr0 m ps).r (frNow ps) ps { fr0 m ps with si := frQ ps } 2
def frM (m : Mm) (ps : List Int) : Mm := { frE m ps with r := frNow ps, er := 0 }
def frO (m : Mm) (ps : List Int) : List Int := frZ (frQ ps) (fr0 m ps).r (frNow ps) ps { fr0 m ps with si := frQ ps } 2
theorem fresh_good : goodM freshM = true := by decide
theorem fr0_good {m : Mm} (g : goodM m = true) (ps : List Int) : goodM (fr0 m ps) = true := by
  unfold fr0
  split
  · exact fresh_good
  · exact g
theorem fr0_ok {m : Mm} (k : m.ok) (ps : List Int) : (fr0 m ps).ok := by
  unfold fr0
  split
  · exact freshM_ok
  · exact k
theorem good_si {m : Mm} (g : goodM m = true) (b : Bool) : goodM { m with si := b } = true := g
theorem frE_ok {m : Mm} {ps : List Int} (k : m.ok) (h : pkTo ps 25 = true) (hl : ps.length = 25) : (frE m ps).ok := by
  unfold frE
  exact frK_ok (m := { fr0 m ps with si := frQ ps }) ⟨(fr0_ok k ps).r, (fr0_ok k ps).p, (fr0_ok k ps).e⟩ h hl 2 (Nat.le_refl _)
theorem frM_ok {m : Mm} {ps : List Int} (k : m.ok) (h : pkTo ps 25 = true) (hl : ps.length = 25) : (frM m ps).ok := by
  have h1 := frE_ok k h hl
  unfold frM
  generalize frE m ps = z at *
  exact ⟨frNow_len ps, h1.p, h1.e⟩
theorem frM_good {m : Mm} {ps : List Int} (g : goodM m = true) (h : pkTo ps 25 = true) (hl : ps.length = 25) : goodM (frM m ps) = true := by
  have h1 : goodM (frE m ps) = true := by unfold frE; exact frK_good (good_si (fr0_good g ps) _) h hl 2 (Nat.le_refl _)
  unfold frM
  generalize frE m ps = z at *
  obtain ⟨_, h2, h3, t1, t2, t3, t4, t5⟩ := goodM_of h1
  exact goodM_yes (frNow_okK h) h2 h3 ⟨t1, t2, t3, t4, by show (0 : Int) ≤ 0; omega, by show (0 : Int) ≤ 6; omega⟩
theorem frO_len (m : Mm) (ps : List Int) : (frO m ps).length = 80 := by unfold frO; rw [frZ_len]
theorem fr0_steady {m : Mm} (g : goodM m = true) (ps : List Int) : steadyB (fr0 m ps).r = true := okK_steady (goodM_of (fr0_good g ps)).1
theorem frNow_steady {ps : List Int} (h : pkTo ps 25 = true) : steadyB (frNow ps) = true := okK_steady (frNow_okK h)
/-! What Decode answers. -/
def deE (m : Mm) (xs : List Int) : Int := if goodM m = true then unE xs else 2
def deM (m : Mm) (xs : List Int) : Mm := if deE m xs = 0 then frM m (unL xs) else zeroM
def deY (m : Mm) (xs : List Int) : List Int := if deE m xs = 0 then frO m (unL xs) else []
theorem unE_to {xs : List Int} (h : unE xs = 0) : pkTo (unL xs) 25 = true := by
  have e : unL xs = uL (unV xs) 25 := by unfold unL; rw [if_pos h]
  rw [e]
  unfold unE at h
  by_cases h1 : xs.length ≠ 15
  · rw [if_pos h1] at h; cases h
  rw [if_neg h1] at h
  by_cases h2 : chk (xs.take 14) ≠ xs.getD 14 0
  · rw [if_pos h2] at h; cases h
  rw [if_neg h2] at h
  by_cases h3 : unV xs % 32 ≠ 0
  · rw [if_pos h3] at h; cases h
  rw [if_neg h3] at h
  by_cases h4 : pkTo (uL (unV xs) 25) 25 = false
  · rw [if_pos h4] at h; cases h
  simpa using h4
theorem deM_ok {m : Mm} (k : m.ok) (xs : List Int) : (deM m xs).ok := by
  unfold deM
  split
  · next h =>
    have h2 : unE xs = 0 := by
      unfold deE at h
      split at h
      · exact h
      · cases h
    exact frM_ok k (unE_to h2) (unL_len xs)
  · exact zeroM_ok
theorem deY_len (m : Mm) (xs : List Int) : (deY m xs).length ≤ 80 := by
  unfold deY
  split
  · rw [frO_len]; exact Nat.le_refl _
  · simp
end Go.Proofs.YthoiikkjjaldnaaGreatDoor

/- The walk of package synth's good, guess and push. -/
namespace Go.Proofs.YthoiikkjjaldnaaGreatDoor
set_option linter.unusedVariables false
set_option linter.unusedSimpArgs false
set_option maxRecDepth 100000
open Go.RowKit

set_option maxHeartbeats 4000000 in
theorem synthgood_any (a p l : List Int) (A : Option Addr) (c n B : Nat) (w : World) (ha : a.length = 9) (hp : p.length = 8) (hr : Rs w w.heap.size A l) (hn : l.length = n) (hl : n ≤ 17592186044416) :
    Calls Tryz.prog 155 #[.agg (agi a), .agg (agi p), .slice A n c] w (AnsB w (goodF a p l)) := by
  have hI := hid (IB.new w 90 a)
  have hJ := IB.new (w.alloc (.cells (agi a) 90)) 22 p
  simp only [World.size_alloc] at hJ
  have hJ := hid hJ
  have hI := hid (Blk.alloc hI.out (.cells (agi p) 22))
  have HA := hid ha
  have HP := hid hp
  have HN := hid hn
  have HR := hid (hr.below (((Below.refl _ w).alloc (Nat.le_refl _) (.cells (agi a) 90)).alloc (by simp) (.cells (agi p) 22)))
  have HB := hid (((Below.refl _ w).alloc (Nat.le_refl _) (.cells (agi a) 90)).alloc (by simp) (.cells (agi p) 22))
  have hix := fun (k : Nat) (hk : k < 9) (w : World) => run_index_agi Tryz.underlying90 a ha k hk w
  have HIX := hid hix
  have hjx := fun (k : Nat) (hk : k < 8) (w : World) => run_index_agi Tryz.underlying22 p hp k hk w
  have HJX := hid hjx
  clear ha hp hn hr hix hjx
  have c0 := IB.cell hI.out 0 (by rw [HA.out]; omega)
  obtain ⟨a0, ha0⟩ : ∃ a0, a0 = a.getD 0 0 := ⟨_, rfl⟩
  rw [← ha0] at c0
  have HA0 := hid ha0
  have C0 := hid c0
  clear ha0 c0
  go_enter Tryz.func155, Tryz.ntmps155
  go_wp2_with (refine wpList_loadI rfl 90 (.tmp 3) rfl _ 90 a 9 _ rfl hI.out Tryz.underlying90 rfl size9 HA.out ?_)
  go_loop [14] (fun iv => ∃ k : Nat, k ≤ 9 ∧ iv = .int .i64 k ∧ Hid (allTo okP1 a k)) (fun iv => 9 - (intOf iv).toNat)
  case atStart => exact ⟨0, by omega, rfl, hid allTo.zero⟩
  case round =>
    obtain ⟨k, hk, rfl, HY⟩ := hrel
    by_cases hlt : k < 9
    · have hix := HIX.out k hlt
      obtain ⟨x, hx⟩ : ∃ x, x = a.getD k 0 := ⟨_, rfl⟩
      rw [← hx] at hix
      have HX := hid hx
      clear hx
      by_cases b1 : x < -1048576
      · have HF := hid (show okP a = false from all_no (i := k) (by rw [HA.out]; exact hlt) (okP1_no (by rw [← HX.out]; exact .inl b1)))
        go_wp2
        go_ret
        exact ⟨by unfold goodF; rw [HF.out]; rfl, HB.out⟩
      by_cases b2 : 1048576 < x
      · have HF := hid (show okP a = false from all_no (i := k) (by rw [HA.out]; exact hlt) (okP1_no (by rw [← HX.out]; exact .inr b2)))
        go_wp2
        go_ret
        exact ⟨by unfold goodF; rw [HF.out]; rfl, HB.out⟩
      have HN2 := hid (HY.out.succ (by rw [← HX.out]; exact okP1_yes (by omega) (by omega)))
      go_wp2
      go_round
      case rel => exact ⟨k + 1, by omega, by go_num, HN2⟩
      case measure => simp [intOf] <;> omega
    · obtain rfl : k = 9 := by omega
      have HF9 := hid (show okP a = true from HY.out.all (by rw [HA.out]; exact Nat.le_refl _))
      clear hlt HY
      go_wp2_with (refine wpList_loadI rfl 22 (.tmp 4) rfl _ 22 p 8 _ rfl hJ.out Tryz.underlying22 rfl size8 HP.out ?_)
      go_loop [25] (fun iv => ∃ k : Nat, k ≤ 8 ∧ iv = .int .i64 k ∧ Hid (allTo ok16 p k)) (fun iv => 8 - (intOf iv).toNat)
      case atStart => exact ⟨0, by omega, rfl, hid allTo.zero⟩
      case round =>
        obtain ⟨k, hk, rfl, HY⟩ := hrel
        by_cases hlt : k < 8
        · have hix := HJX.out k hlt
          obtain ⟨x, hx⟩ : ∃ x, x = p.getD k 0 := ⟨_, rfl⟩
          rw [← hx] at hix
          have HX := hid hx
          clear hx
          by_cases hbad : x < -32768 ∨ 32767 < x
          · have HF := hid (show all16 p = false from all_no (i := k) (by rw [HP.out]; exact hlt) (ok16_no (by rw [← HX.out]; exact hbad)))
            have e1 : (x == s16 x) = false := by rw [beq_eq_false_iff_ne]; exact fun h => s16_ne hbad h.symm
            have e2 : (x != s16 x) = true := by rw [bne_iff_ne]; exact fun h => s16_ne hbad h.symm
            clear hbad
            go_wp2_with (go_at_call 156; refine (synthsat_any _ _).mono ?_; rintro e w' ⟨rfl, rfl⟩)
            go_ret
            exact ⟨by unfold goodF; rw [HF.out]; simp, HB.out⟩
          · have HN2 := hid (HY.out.succ (by rw [← HX.out]; exact ok16_yes (by omega) (by omega)))
            have e0 := s16_id (x := x) (by omega) (by omega)
            clear hbad
            go_wp2_with (go_at_call 156; refine (synthsat_any _ _).mono ?_; rintro e w' ⟨rfl, rfl⟩)
            go_round
            case rel => exact ⟨k + 1, by omega, by go_num, HN2⟩
            case measure => simp [intOf] <;> omega
        · obtain rfl : k = 8 := by omega
          have HF8 := hid (show all16 p = true from HY.out.all (by rw [HP.out]; exact Nat.le_refl _))
          clear hlt HY
          go_wp2
          go_loop [35] (fun iv => ∃ k : Nat, k ≤ n ∧ iv = .int .i64 k ∧ Hid (allTo ok16 l k)) (fun iv => n - (intOf iv).toNat)
          case atStart => exact ⟨0, by omega, rfl, hid allTo.zero⟩
          case round =>
            obtain ⟨k, hk, rfl, HY⟩ := hrel
            by_cases hlt : k < n
            · obtain ⟨ad, rfl, _, c1⟩ := HR.out.at_ (k := k) (by rw [HN.out]; exact hlt)
              obtain ⟨x, hx⟩ : ∃ x, x = l.getD k 0 := ⟨_, rfl⟩
              rw [← hx] at c1
              have HX := hid hx
              clear hx
              by_cases hbad : x < -32768 ∨ 32767 < x
              · have HF := hid (show all16 l = false from all_no (i := k) (by rw [HN.out]; exact hlt) (ok16_no (by rw [← HX.out]; exact hbad)))
                have e1 : (x == s16 x) = false := by rw [beq_eq_false_iff_ne]; exact fun h => s16_ne hbad h.symm
                have e2 : (x != s16 x) = true := by rw [bne_iff_ne]; exact fun h => s16_ne hbad h.symm
                clear hbad
                go_wp2_with (go_at_call 156; refine (synthsat_any _ _).mono ?_; rintro e w' ⟨rfl, rfl⟩)
                go_ret
                exact ⟨by unfold goodF; rw [HF.out]; simp, HB.out⟩
              · have HN2 := hid (HY.out.succ (by rw [← HX.out]; exact ok16_yes (by omega) (by omega)))
                have e0 := s16_id (x := x) (by omega) (by omega)
                clear hbad
                go_wp2_with (go_at_call 156; refine (synthsat_any _ _).mono ?_; rintro e w' ⟨rfl, rfl⟩)
                go_round
                case rel => exact ⟨k + 1, by omega, by go_num, HN2⟩
                case measure => simp [intOf] <;> omega
            · have HF := hid (show all16 l = true from HY.out.all (by rw [HN.out]; omega))
              have c0 := C0.out
              go_wp2
              go_ret
              exact ⟨by unfold goodF; rw [HF9.out, HF8.out, HF.out, ← HA0.out]; simp only [Bool.true_and, Bool.and_true]; rfl, HB.out⟩

set_option maxHeartbeats 2000000 in
theorem synthguess_any (a p : List Int) (w : World) (ha : a.length = 9) (hp : p.length = 8) (oa : okP a = true) (op : all16 p = true) :
    Calls Tryz.prog 157 #[.agg (agi a), .agg (agi p)] w fun e w' => e = .returned (.int .i64 (guessL a p)) ∧ Below w.heap.size w w' := by
  have hI := hid (IB.new w 90 a)
  have hJ := IB.new (w.alloc (.cells (agi a) 90)) 22 p
  simp only [World.size_alloc] at hJ
  have hJ := hid hJ
  have hI := hid (Blk.alloc hI.out (.cells (agi p) 22))
  have HA := hid ha
  have HP := hid hp
  have HB := hid (((Below.refl _ w).alloc (Nat.le_refl _) (.cells (agi a) 90)).alloc (by simp) (.cells (agi p) 22))
  have hjx := fun (k : Nat) (hk : k < 8) (w : World) => run_index_agi Tryz.underlying22 p hp k hk w
  have HJX := hid hjx
  have OA := hid oa
  have OP := hid op
  clear ha hp hjx oa op
  go_enter Tryz.func157, Tryz.ntmps157
  go_wp2_with (refine wpList_loadI rfl 22 (.tmp 3) rfl _ 22 p 8 _ rfl hJ.out Tryz.underlying22 rfl size8 HP.out ?_)
  go_loop [5, 9] (fun sv iv => ∃ (k : Nat) (s : Int), k ≤ 8 ∧ iv = .int .i64 k ∧ sv = .int .i64 s ∧ Hid (s = 2048 + sumN (gterm a p) k)) (fun _ iv => 8 - (intOf iv).toNat)
  case atStart => exact ⟨0, 2048, by omega, rfl, rfl, hid rfl⟩
  case round =>
    obtain ⟨k, s, hk, rfl, rfl, HS⟩ := hrel
    by_cases hlt : k < 8
    · have hjx := HJX.out k hlt
      have ci := IB.cell hI.out (k + 1) (by rw [HA.out]; omega)
      have tb := gterm_bound OA.out OP.out k
      have sb := gsum_bound OA.out OP.out k
      have HT := hid (show 2048 + sumN (gterm a p) (k + 1) = s + gterm a p k by rw [HS.out]; simp only [sumN]; omega)
      have hs := HS.out
      have s1 : -300000000000 ≤ s := by omega
      have s2 : s ≤ 300000000000 := by omega
      clear hs sb
      unfold gterm at tb HT
      generalize a.getD (k + 1) 0 = x at *
      generalize p.getD k 0 = y at *
      obtain ⟨t1, t2⟩ := tb
      have HS2 := hid (show s + x * y = 2048 + sumN (fun i => a.getD (i + 1) 0 * p.getD i 0) (k + 1) from HT.out.symm)
      clear HT HS
      go_wp2
      go_round
      case rel => exact ⟨k + 1, _, by omega, by go_num, rfl, HS2⟩
      case measure => simp [intOf] <;> omega
    · obtain rfl : k = 8 := by omega
      have HF := hid (show s / 4096 = guessL a p by unfold guessL; rw [HS.out])
      go_wp2
      go_ret
      exact ⟨by rw [← HF.out]; rfl, HB.out⟩
end Go.Proofs.YthoiikkjjaldnaaGreatDoor

/- The walk of package synth's push. -/
namespace Go.Proofs.YthoiikkjjaldnaaGreatDoor
set_option linter.unusedVariables false
set_option linter.unusedSimpArgs false
set_option maxRecDepth 100000
open Go.RowKit

set_option maxHeartbeats 2000000 in
theorem synthpush_any (p : List Int) (x : Int) (w : World) (hp : p.length = 8) :
    Calls Tryz.prog 158 #[.agg (agi p), .int .i64 x] w fun e w' => e = .returned (.agg (agi (pushL p x))) ∧ Below w.heap.size w w' := by
  have hR := results_row1 (fn := Tryz.f158) (p := 4) (ty := 22) rfl
  have I0 := IB.new w 22 p
  have HA := hid (Blk.alloc I0 (.cells (agi Z8) 22))
  have J0 := IB.new (w.alloc (.cells (agi p) 22)) 22 Z8
  simp only [World.size_alloc] at J0
  have HJ := hid J0
  have HB := hid (((Below.refl _ w).alloc (Nat.le_refl _) (.cells (agi p) 22)).alloc (by simp) (.cells (agi Z8) 22))
  rw [z8_eq] at HA HJ HB
  have HP := hid hp
  have hl7 : (p.take 7).length = 7 := by simp [hp]
  have L7 := hid hl7
  obtain ⟨zs, hz⟩ : ∃ zs, zs = p.take 1 ++ p.take 7 ++ p.drop (1 + (p.take 7).length) := ⟨_, rfl⟩
  have hzs : zs.set 0 x = pushL p x := by
    rw [hz, hl7]
    have e8 : p.drop 8 = [] := List.drop_eq_nil_of_le (by omega)
    rw [e8]
    match p, hp with
    | a :: q, _ => simp [pushL]
  have hzl : zs.length = 8 := by rw [hz, hl7]; simp; omega
  have HZ := hid hz
  have HZS := hid hzs
  have HZL := hid hzl
  have c7 : ∀ j, j < 7 → (p.take 7).getD j 0 = p.getD j 0 := fun j hj => by simp [hj]
  have C7 := hid c7
  clear hp hl7 hz hzs hzl c7 I0 J0
  go_enter Tryz.func158, Tryz.ntmps158
  go_wp2
  go_region_law (refine step_copyI rfl (.tmp 5) (.tmp 6) 27 27 rfl Tryz.underlying27 w.heap.size 1 7 7 ⟨w.heap.size, 0, none⟩ 7 8 (by simp [Act.eval, Act.put]) (by simp [Act.eval, Act.put]) 22 p (p.take 7) zs HA.out (by rw [L7.out]; rfl) (fun j hj => by rw [add_zero']; rw [L7.out] at hj; rw [C7.out j hj]; exact IB.cell HA.out j (by rw [HP.out]; omega)) (by rw [L7.out, HP.out]; omega) HZ.out ?_)
  generalize hw4 : World.setRow _ _ _ = w4
  have IA : IB w4 w.heap.size 22 zs := by rw [← hw4]; exact IB.setRow (Blk.drew HA.out) zs
  have IJ : IB w4 (w.heap.size + 1) 22 Z8 := by rw [← hw4]; exact Blk.rowFar (Blk.drew HJ.out) (by omega)
  have IL : Below w.heap.size w w4 := by rw [← hw4]; exact (Below.drew HB.out).trans (below_setRow (Below.refl _ _) (Nat.le_refl _) _)
  have IA := hid IA
  have IJ := hid IJ
  have IL := hid IL
  clear hw4 HA HJ HB
  have c0 := IB.cell IA.out 0 (by rw [HZL.out]; omega)
  have f0 := Blk.frozen IA.out 0
  have IA2 := hid (show IB (w4.setCell ⟨w.heap.size, 0, none⟩ (.int .i64 x)) w.heap.size 22 (pushL p x) by rw [← HZS.out]; exact IB.set_ IA.out 0 x)
  have IJ2 := hid (show IB (w4.setCell ⟨w.heap.size, 0, none⟩ (.int .i64 x)) (w.heap.size + 1) 22 Z8 from Blk.far IJ.out (by show w.heap.size + 1 ≠ w.heap.size; omega) _)
  have IL2 := hid (IL.out.setCell (p := ⟨w.heap.size, 0, none⟩) (Nat.le_refl _) (.int .i64 x))
  have LP := hid (pushL_len HP.out x)
  have FIN := hid (below_setRow IL2.out (g := w.heap.size + 1) (by omega) (agi (pushL p x)))
  have hRow := hid (IB.setRow IJ2.out (pushL p x))
  go_wp2_with (first
    | (refine wpList_loadI rfl 22 (.tmp 2) rfl _ 22 (pushL p x) 8 _ rfl IA2.out Tryz.underlying22 rfl size8 LP.out ?_)
    | (refine wpList_storeI rfl 22 (.tmp 4) (.tmp 10) rfl _ 22 Z8 (pushL p x) 8 rfl rfl IJ2.out size8 rfl LP.out ?_))
  refine bodyPost_ret (v := _) (hR _ _ _ 22 (pushL p x) _ 8 rfl hRow.out Tryz.underlying22 rfl size8 LP.out) rfl ?_
  exact ⟨rfl, FIN.out⟩
end Go.Proofs.YthoiikkjjaldnaaGreatDoor

/- The walks of package synth's Make and Undo. -/
namespace Go.Proofs.YthoiikkjjaldnaaGreatDoor
set_option linter.unusedVariables false
set_option linter.unusedSimpArgs false
set_option maxRecDepth 100000
open Go.RowKit

/-- The answer: a slice, an array in a block, a number. -/
theorem results_mid3 {fn : Func} {p q r : Tmp} {ty : TypeId} (h : fn.results = #[.tmp p, .cell q ty, .tmp r]) (tmps : Array Value) (w : World) (g : Nat) (t : TypeId) (xs : List Int) (d : TypeDesc) (n : Nat)
    (hp : tmps.getD q undef = .pointer (some ⟨g, 0, none⟩)) (hg : IB w g t xs) (hu : Tryz.prog.underlying ty = some d) (hd : isAggD d = true) (hi : (Tryz.prog.info? ty).map (·.size) = some n) (hl : xs.length = n) :
    (results fn tmps).run Tryz.prog w = .ok (.tuple #[tmps.getD p undef, .agg (agi xs), tmps.getD r undef]) w := by
  have hp' : tmps[q]?.getD undef = .pointer (some ⟨g, 0, none⟩) := by simpa using hp
  have hr := run_loadVar_row (P := Tryz.prog) w g t ty (agi xs) (0, 0) d hg hu (by cases d <;> first | rfl | (simp [isAggD] at hd)) (by rw [hi, agi_size, hl])
  simp [results, h, hp', asAddr, hr]

def NewSP (w : World) (ys q : List Int) (er : Int) (e : Ending) (w' : World) : Prop := ∃ A c, e = .returned (.tuple #[.slice A ys.length c, .agg (agi q), .int .i64 er]) ∧ Own w' w.heap.size A c ys ∧ Below w.heap.size w w'

/-- The three boxes: the predictor, the past, the answer's past. -/
structure Sx (w wr : World) (a q : List Int) : Prop where
  A : IB wr w.heap.size 90 a
  P : IB wr (w.heap.size + 1) 22 q
  R : IB wr (w.heap.size + 2) 22 Z8
  bel : Below w.heap.size w wr
theorem Sx.lt {w wr : World} {a q : List Int} (h : Sx w wr a q) : w.heap.size + 3 ≤ wr.heap.size := Blk.lt h.R
theorem Sx.below {w wr wr' : World} {a q : List Int} (h : Sx w wr a q) (hb : Below wr.heap.size wr wr') : Sx w wr' a q :=
  ⟨Blk.below' h.A hb, Blk.below' h.P hb, Blk.below' h.R hb, h.bel.trans (hb.mono (by have := h.lt; omega))⟩
theorem Sx.alloc {w wr : World} {a q : List Int} (h : Sx w wr a q) (o : Obj) : Sx w (wr.alloc o) a q :=
  ⟨Blk.alloc h.A o, Blk.alloc h.P o, Blk.alloc h.R o, h.bel.alloc (by have := h.lt; omega) o⟩
theorem Sx.setP {w wr : World} {a q : List Int} (h : Sx w wr a q) (q2 : List Int) : Sx w (wr.setRow (w.heap.size + 1) (agi q2)) a q2 :=
  ⟨Blk.rowFar h.A (by omega), IB.setRow h.P q2, Blk.rowFar h.R (by omega), below_setRow h.bel (by omega) _⟩
theorem Sx.drew {w wr : World} {a q : List Int} (h : Sx w wr a q) : Sx w wr.drew a q := ⟨h.A, h.P, h.R, h.bel.drew⟩
theorem Sx.start (w : World) (a q : List Int) : Sx w (((w.alloc (.cells (agi a) 90)).alloc (.cells (agi q) 22)).alloc (.cells (agi Z8) 22)) a q := by
  have h1 := IB.new w 90 a
  have h2 := IB.new (w.alloc (.cells (agi a) 90)) 22 q
  have h3 := IB.new ((w.alloc (.cells (agi a) 90)).alloc (.cells (agi q) 22)) 22 Z8
  simp only [World.size_alloc] at h2 h3
  exact ⟨Blk.alloc (Blk.alloc h1 _) _, Blk.alloc h2 _, h3, ((((Below.refl _ _).alloc (Nat.le_refl _) _).alloc (by simp) _).alloc (by simp; omega) _)⟩
theorem Sx.grown {w wr wr' : World} {a q xs : List Int} {A : Option Addr} {c : Nat} (h : Sx w wr a q) (hO : Own wr (w.heap.size + 3) A c xs) (hG : wr.grownBy wr' (A.map (·.block))) : Sx w wr' a q :=
  ⟨Blk.grownA h.A hG (hO.ne_ (by omega)), Blk.grownA h.P hG (hO.ne_ (by omega)), Blk.grownA h.R hG (hO.ne_ (by omega)),
    below_grown h.bel (hO.more (by omega)) hG (by have := h.lt; omega)⟩

theorem list8 {q : List Int} (h : q.length = 8) : ∃ q0 q1 q2 q3 q4 q5 q6 q7, q = [q0, q1, q2, q3, q4, q5, q6, q7] := by
  match q, h with
  | [a, b, c, d, e, f, g, i], _ => exact ⟨a, b, c, d, e, f, g, i, rfl⟩
theorem IB.set8 {w : World} {g : Nat} {t : TypeId} (h : IB w g t Z8) (q0 q1 q2 q3 q4 q5 q6 q7 : Int) :
    IB ((((((((w.setCell ⟨g, 0, none⟩ (.int .i64 q0)).setCell ⟨g, 1, none⟩ (.int .i64 q1)).setCell ⟨g, 2, none⟩ (.int .i64 q2)).setCell ⟨g, 3, none⟩ (.int .i64 q3)).setCell ⟨g, 4, none⟩ (.int .i64 q4)).setCell ⟨g, 5, none⟩ (.int .i64 q5)).setCell ⟨g, 6, none⟩ (.int .i64 q6)).setCell ⟨g, 7, none⟩ (.int .i64 q7)) g t [q0, q1, q2, q3, q4, q5, q6, q7] :=
  (((((((h.set_ 0 q0).set_ 1 q1).set_ 2 q2).set_ 3 q3).set_ 4 q4).set_ 5 q5).set_ 6 q6).set_ 7 q7
theorem below_set8 {w0 w : World} {B g : Nat} (h : Below B w0 w) (hg : B ≤ g) (q0 q1 q2 q3 q4 q5 q6 q7 : Int) :
    Below B w0 ((((((((w.setCell ⟨g, 0, none⟩ (.int .i64 q0)).setCell ⟨g, 1, none⟩ (.int .i64 q1)).setCell ⟨g, 2, none⟩ (.int .i64 q2)).setCell ⟨g, 3, none⟩ (.int .i64 q3)).setCell ⟨g, 4, none⟩ (.int .i64 q4)).setCell ⟨g, 5, none⟩ (.int .i64 q5)).setCell ⟨g, 6, none⟩ (.int .i64 q6)).setCell ⟨g, 7, none⟩ (.int .i64 q7)) :=
  (((((((h.setCell (p := ⟨g, 0, none⟩) hg _).setCell (p := ⟨g, 1, none⟩) hg _).setCell (p := ⟨g, 2, none⟩) hg _).setCell (p := ⟨g, 3, none⟩) hg _).setCell (p := ⟨g, 4, none⟩) hg _).setCell (p := ⟨g, 5, none⟩) hg _).setCell (p := ⟨g, 6, none⟩) hg _).setCell (p := ⟨g, 7, none⟩) hg _
theorem Own.set8 {w : World} {base c g : Nat} {A : Option Addr} {xs : List Int} (h : Own w base A c xs) (hg : g < base) (q0 q1 q2 q3 q4 q5 q6 q7 : Int) :
    Own ((((((((w.setCell ⟨g, 0, none⟩ (.int .i64 q0)).setCell ⟨g, 1, none⟩ (.int .i64 q1)).setCell ⟨g, 2, none⟩ (.int .i64 q2)).setCell ⟨g, 3, none⟩ (.int .i64 q3)).setCell ⟨g, 4, none⟩ (.int .i64 q4)).setCell ⟨g, 5, none⟩ (.int .i64 q5)).setCell ⟨g, 6, none⟩ (.int .i64 q6)).setCell ⟨g, 7, none⟩ (.int .i64 q7)) base A c xs :=
  (((((((h.setC hg 0 _).setC hg 1 _).setC hg 2 _).setC hg 3 _).setC hg 4 _).setC hg 5 _).setC hg 6 _).setC hg 7 _

set_option maxHeartbeats 4000000 in
theorem synthMake_any (a p l : List Int) (A0 : Option Addr) (c0 n : Nat) (w : World) (ha : a.length = 9) (hp : p.length = 8) (hr : Rs w w.heap.size A0 l) (hn : l.length = n) (hl : n ≤ 17592186044000) :
    Calls Tryz.prog 90 #[.agg (agi a), .agg (agi p), .slice A0 n c0] w (NewSP w (if goodF a p l then makeN a p l n else []) (if goodF a p l then newL p (makeN a p l n) else Z8) (errOf (goodF a p l))) := by
  have hR := results_mid3 (fn := Tryz.f90) (p := 6) (q := 7) (r := 8) (ty := 22) rfl
  have S0 := Sx.start w a p
  have R0 := hr.below S0.bel
  rw [z8_eq] at S0
  rw [z8_eq] at R0
  have S0 := hid S0
  have R0 := hid R0
  have HA := hid ha
  have HP := hid hp
  have HN := hid hn
  have HR := hid hr
  have KG := hid (fun (W : World) (hW : Rs W W.heap.size A0 l) => synthgood_any a p l A0 c0 n 0 W ha hp hW hn (by omega))
  clear ha hp hn hr
  obtain ⟨Y, hY⟩ : ∃ Y, Y = (if goodF a p l then makeN a p l n else []) := ⟨_, rfl⟩
  obtain ⟨Z, hZ⟩ : ∃ Z, Z = (if goodF a p l then newL p (makeN a p l n) else Z8) := ⟨_, rfl⟩
  rw [← hY, ← hZ]
  have HYY := hid hY
  have HZZ := hid hZ
  clear hY hZ
  go_enter Tryz.func90, Tryz.ntmps90
  go_wp2_with (first
    | (refine wpList_loadI rfl 90 (.tmp 3) rfl _ 90 a 9 _ rfl S0.out.A Tryz.underlying90 rfl size9 HA.out ?_)
    | (refine wpList_loadI rfl 22 (.tmp 4) rfl _ 22 p 8 _ rfl S0.out.P Tryz.underlying22 rfl size8 HP.out ?_))
  refine (KG.out _ (R0.out.more (by simp; omega))).mono ?_
  rintro e w1 ⟨rfl, hB⟩
  have S1 := hid (S0.out.below hB)
  clear hB S0 R0 KG
  by_cases hg : goodF a p l = true
  · have HG := hid hg
    rw [hg]
    have y1 := HYY.out
    have z1 := HZZ.out
    rw [if_pos hg] at y1 z1
    have HY1 := hid y1
    have HZ1 := hid z1
    clear y1 z1
    obtain ⟨ga, gz, gp, gl⟩ : okP a = true ∧ a.getD 0 0 = 4096 ∧ all16 p = true ∧ all16 l = true := by simpa [goodF] using hg
    have GA := hid ga
    have GP := hid gp
    have GL := hid gl
    clear hg ga gz gp gl
    go_wp2
    go_loopw [9, 21] (fun ov iv wr => ∃ (k : Nat) (A : Option Addr) (c : Nat) (q ys : List Int), k ≤ n ∧ iv = .int .i64 k ∧ ov = .slice A k c ∧ Hid (ys = makeN a p l k) ∧ Hid (q = newL p (makeN a p l k)) ∧ Hid (Own wr (w.heap.size + 3) A c ys) ∧ Hid (Sx w wr a q)) (fun _ iv _ => n - (intOf iv).toNat)
    case atStart => exact ⟨0, none, 0, p, [], by omega, rfl, rfl, hid rfl, hid rfl, hid Own.nil, S1⟩
    case round =>
      clear S1
      obtain ⟨k, A, c, q, ys, hk, rfl, rfl, HY, HQ, HO, HS⟩ := hrel
      have HQL := hid (show q.length = 8 by rw [HQ.out]; exact newL_len _ _ HP.out)
      by_cases hlt : k < n
      · have q16 := hid (show all16 q = true by rw [HQ.out]; exact newL_all _ _ GP.out (makeN_all _ _ _ _))
        obtain ⟨ad, rfl, hadb, c1⟩ := (HR.out.below HS.out.bel).at_ (k := k) (by rw [HN.out]; exact hlt)
        have xb := all16_at GL.out k
        have YN := hid (show ys ++ [s16 (l.getD k 0 - guessL a q)] = makeN a p l (k + 1) by rw [makeN, ← HY.out, HQ.out, HY.out])
        obtain ⟨x, hx⟩ : ∃ x, x = l.getD k 0 := ⟨_, rfl⟩
        rw [← hx] at c1 xb YN
        have gb := guess_bound GA.out q16.out
        have K1 := hid (fun W => synthguess_any a q W HA.out HQL.out GA.out q16.out)
        generalize guessL a q = g at *
        obtain ⟨x1, x2⟩ := xb
        obtain ⟨g1, g2⟩ := gb
        have hw1 : IntKind.i64.wrap (x - g) = x - g := by rw [IntKind.wrap_i64]; omega
        obtain ⟨y, hy⟩ : ∃ y, y = s16 (x - g) := ⟨_, rfl⟩
        rw [← hy] at YN
        have KS := hid (fun W => synthsat_any (x - g) W)
        rw [← hy] at KS
        have QN := hid (show pushL q y = newL p (makeN a p l (k + 1)) by rw [← YN.out, HY.out, newL_snoc, HQ.out])
        have LP := hid (pushL_len HQL.out y)
        have HX := hid hx
        have YL := hid (show ys.length = k by rw [HY.out, makeN_len])
        clear hx hy
        go_wp2_with (first
          | (refine wpList_loadI rfl 90 (.tmp 3) rfl _ 90 a 9 _ rfl HS.out.A Tryz.underlying90 rfl size9 HA.out ?_)
          | (refine wpList_loadI rfl 22 (.tmp 4) rfl _ 22 q 8 _ rfl HS.out.P Tryz.underlying22 rfl size8 HQL.out ?_))
        refine (K1.out _).mono ?_
        rintro e w2 ⟨rfl, hB⟩
        have S2 := hid (HS.out.below hB)
        have O2 := hid (HO.out.below hB)
        clear hB HS HO c1
        go_wp2_with (first
          | (go_at_call 156; refine (KS.out _).mono ?_; rintro e w' ⟨rfl, rfl⟩)
          | (refine wpList_loadI rfl 22 (.tmp 4) rfl _ 22 q 8 _ rfl S2.out.P Tryz.underlying22 rfl size8 HQL.out ?_))
        refine (synthpush_any q y _ HQL.out).mono ?_
        rintro e w3 ⟨rfl, hB⟩
        have S3 := hid (S2.out.below hB)
        have O3 := hid (O2.out.below hB)
        clear hB S2 O2
        go_wp2_with (first
          | (refine wpList_storeI rfl 22 (.tmp 4) (.tmp 33) rfl _ 22 q (pushL q y) 8 rfl rfl S3.out.P size8 HQL.out LP.out ?_
             obtain ⟨w4, hw4⟩ : ∃ w4, w4 = w3.setRow (w.heap.size + 1) (agi (pushL q y)) := ⟨_, rfl⟩
             rw [← hw4]
             have S4 := hid (show Sx w w4 a (pushL q y) by rw [hw4]; exact S3.out.setP _)
             have O4 := hid (show Own w4 (w.heap.size + 3) A c ys by rw [hw4]; exact O3.out.setRow (by omega) _)
             clear hw4)
          | (at_builtin; refine wpList_pushN rfl (.tmp 34) (.tmp 36) rfl (w.heap.size + 3) A c k ys rfl YL.out (O4.out.alloc _) ⟨w4.heap.size, 0, none⟩ y rfl (cell_new w4 _ _) (by omega) (Nat.le_trans S4.out.lt (by simp)) ?_; intro A2 c2 w5 hO hG hA; have O5 := hid hO; have G5 := hid hG; clear hO hG hA))
        have S5 := hid ((S4.out.alloc _).grown (O4.out.alloc _) G5.out)
        go_wp2
        go_roundw
        case rel => exact ⟨k + 1, A2, c2, _, _, by omega, by go_num, rfl, YN, QN, O5, S5⟩
        case measure => simp [intOf] <;> omega
      · obtain rfl : k = n := by omega
        obtain ⟨q0, q1, q2, q3, q4, q5, q6, q7, rfl⟩ := list8 HQL.out
        have c0 : wr.cell? ⟨w.heap.size + 1, 0, none⟩ = some (.int .i64 q0) := IB.cell HS.out.P 0 (by simp)
        have c1 : wr.cell? ⟨w.heap.size + 1, 1, none⟩ = some (.int .i64 q1) := IB.cell HS.out.P 1 (by simp)
        have c2 : wr.cell? ⟨w.heap.size + 1, 2, none⟩ = some (.int .i64 q2) := IB.cell HS.out.P 2 (by simp)
        have c3 : wr.cell? ⟨w.heap.size + 1, 3, none⟩ = some (.int .i64 q3) := IB.cell HS.out.P 3 (by simp)
        have c4 : wr.cell? ⟨w.heap.size + 1, 4, none⟩ = some (.int .i64 q4) := IB.cell HS.out.P 4 (by simp)
        have c5 : wr.cell? ⟨w.heap.size + 1, 5, none⟩ = some (.int .i64 q5) := IB.cell HS.out.P 5 (by simp)
        have c6 : wr.cell? ⟨w.heap.size + 1, 6, none⟩ = some (.int .i64 q6) := IB.cell HS.out.P 6 (by simp)
        have c7 : wr.cell? ⟨w.heap.size + 1, 7, none⟩ = some (.int .i64 q7) := IB.cell HS.out.P 7 (by simp)
        have r0 : wr.cell? ⟨w.heap.size + 1 + 1, 0, none⟩ = some (.int .i64 0) := IB.cell HS.out.R 0 (by decide)
        have r1 : wr.cell? ⟨w.heap.size + 1 + 1, 1, none⟩ = some (.int .i64 0) := IB.cell HS.out.R 1 (by decide)
        have r2 : wr.cell? ⟨w.heap.size + 1 + 1, 2, none⟩ = some (.int .i64 0) := IB.cell HS.out.R 2 (by decide)
        have r3 : wr.cell? ⟨w.heap.size + 1 + 1, 3, none⟩ = some (.int .i64 0) := IB.cell HS.out.R 3 (by decide)
        have r4 : wr.cell? ⟨w.heap.size + 1 + 1, 4, none⟩ = some (.int .i64 0) := IB.cell HS.out.R 4 (by decide)
        have r5 : wr.cell? ⟨w.heap.size + 1 + 1, 5, none⟩ = some (.int .i64 0) := IB.cell HS.out.R 5 (by decide)
        have r6 : wr.cell? ⟨w.heap.size + 1 + 1, 6, none⟩ = some (.int .i64 0) := IB.cell HS.out.R 6 (by decide)
        have r7 : wr.cell? ⟨w.heap.size + 1 + 1, 7, none⟩ = some (.int .i64 0) := IB.cell HS.out.R 7 (by decide)
        have f0 : wr.frozen? ⟨w.heap.size + 1 + 1, 0, none⟩ = false := Blk.frozen HS.out.R 0
        have f1 : wr.frozen? ⟨w.heap.size + 1 + 1, 1, none⟩ = false := Blk.frozen HS.out.R 1
        have f2 : wr.frozen? ⟨w.heap.size + 1 + 1, 2, none⟩ = false := Blk.frozen HS.out.R 2
        have f3 : wr.frozen? ⟨w.heap.size + 1 + 1, 3, none⟩ = false := Blk.frozen HS.out.R 3
        have f4 : wr.frozen? ⟨w.heap.size + 1 + 1, 4, none⟩ = false := Blk.frozen HS.out.R 4
        have f5 : wr.frozen? ⟨w.heap.size + 1 + 1, 5, none⟩ = false := Blk.frozen HS.out.R 5
        have f6 : wr.frozen? ⟨w.heap.size + 1 + 1, 6, none⟩ = false := Blk.frozen HS.out.R 6
        have f7 : wr.frozen? ⟨w.heap.size + 1 + 1, 7, none⟩ = false := Blk.frozen HS.out.R 7
        have IR := hid (Blk.drew (IB.set8 HS.out.R q0 q1 q2 q3 q4 q5 q6 q7))
        have OR := hid ((HO.out.set8 (g := w.heap.size + 2) (by omega) q0 q1 q2 q3 q4 q5 q6 q7).drew.more (base' := w.heap.size) (by omega))
        have BR := hid (below_set8 HS.out.bel (g := w.heap.size + 2) (by omega) q0 q1 q2 q3 q4 q5 q6 q7).drew
        have FY := hid (show Y = ys by rw [HY1.out, HY.out])
        have FZ := hid (show Z = [q0, q1, q2, q3, q4, q5, q6, q7] by rw [HZ1.out, HQ.out])
        have YL := hid (show ys.length = k by rw [HY.out, makeN_len])
        go_wp2
        go_region
        clear c0 c1 c2 c3 c4 c5 c6 c7 r0 r1 r2 r3 r4 r5 r6 r7 f0 f1 f2 f3 f4 f5 f6 f7
        simp only [Exit.then]
        go_wp2
        refine bodyPost_ret (v := _) (hR _ _ _ 22 [q0, q1, q2, q3, q4, q5, q6, q7] _ 8 rfl IR.out Tryz.underlying22 rfl size8 rfl) rfl ?_
        exact ⟨A, c, by rw [FY.out, FZ.out, YL.out, HG.out]; rfl, by rw [FY.out]; exact OR.out, BR.out⟩
  · have hb : goodF a p l = false := by simpa using hg
    rw [hb]
    have hRow := hid (S1.out.R)
    go_wp2_with (refine wpList_storeI rfl 22 (.tmp 7) (.tmp 18) rfl _ 22 Z8 Z8 8 rfl rfl S1.out.R size8 rfl rfl ?_)
    refine bodyPost_ret (v := _) (hR _ _ _ 22 Z8 _ 8 rfl (IB.setRow S1.out.R Z8) Tryz.underlying22 rfl size8 rfl) rfl ?_
    have y1 := HYY.out
    have z1 := HZZ.out
    rw [if_neg hg] at y1 z1
    subst y1
    subst z1
    exact ⟨none, 0, by rw [hb]; rfl, Own.nil, below_setRow S1.out.bel (by omega) _⟩
end Go.Proofs.YthoiikkjjaldnaaGreatDoor

/- Package coder's play: excitation becomes samples. -/
namespace Go.Proofs.YthoiikkjjaldnaaGreatDoor
set_option linter.unusedVariables false
set_option linter.unusedSimpArgs false
set_option maxRecDepth 100000
open Go.RowKit

section
variable {w w' wr : World} {g : Nat} {m : Mm}
theorem MB.thereP (h : MB w g m) (k : m.ok) : w.there g 8 8 := fun j hj => by
  have h1 := h.there k (8 + j) (by omega)
  rwa [Nat.zero_add] at h1
theorem MB.set_p (h : MB w g m) (k : m.ok) (p : List Int) (hp : p.length = 8) : MB (w.setCells g 8 (ints p)) g { m with p := p } := by
  have h0 : Blk w g 25 (ints m.r ++ (ints m.p ++ (ints m.e ++ m.tl))).toArray := by
    have e1 : m.ag = (ints m.r ++ (ints m.p ++ (ints m.e ++ m.tl))).toArray := rfl
    rw [← e1]; exact h
  have h1 := blk_setCells (ints p) (ints m.p) _ _ w h0 (by rw [ints_len, ints_len, hp, k.p])
  have hl : (ints m.r).length = 8 := by rw [ints_len, k.r]
  rw [hl] at h1
  exact h1
theorem results_mem2 {fn : Func} {p q : Tmp} (h : fn.results = #[.cell p 25, .tmp q]) (tmps : Array Value) (w : World) (g : Nat) (m : Mm)
    (hp : tmps.getD p undef = .pointer (some ⟨g, 0, none⟩)) (hg : MB w g m) (k : m.ok) :
    (results fn tmps).run Tryz.prog w = .ok (.tuple #[.agg m.ag, tmps.getD q undef]) w := by
  have hp' : tmps[p]?.getD undef = .pointer (some ⟨g, 0, none⟩) := by simpa using hp
  have hr := run_loadVar_row (P := Tryz.prog) w g 25 25 m.ag (0, 0) _ hg Tryz.underlying25 rfl (by rw [sizeM, m.size k])
  simp [results, h, hp', asAddr, hr]
theorem newzero (w : World) : MB (w.alloc (.cells Tryz.zeroCells25 25)) w.heap.size zeroM := by rw [zeroM_ag]; exact MB.new w zeroM
theorem Ms.setA {mm : Mm} (s : Ms w wr m) : Ms w (wr.setRow w.heap.size mm.ag) mm :=
  ⟨s.A.setRow mm, Blk.rowFar s.R (by omega), below_setRow s.bel (Nat.le_refl _) _⟩
end
/-- The boxes of play: the memory, the predictor, the answer's. -/
structure Py (w wr : World) (m : Mm) (a : List Int) : Prop where
  A : MB wr w.heap.size m
  F : IB wr (w.heap.size + 1) 90 a
  R : MB wr (w.heap.size + 2) zeroM
  bel : Below w.heap.size w wr
theorem Py.start (w : World) (m : Mm) (a : List Int) : Py w (((w.alloc (.cells m.ag 25)).alloc (.cells (agi a) 90)).alloc (.cells Tryz.zeroCells25 25)) m a := by
  have h1 := MB.new w m
  have h2 := IB.new (w.alloc (.cells m.ag 25)) 90 a
  have h3 := newzero ((w.alloc (.cells m.ag 25)).alloc (.cells (agi a) 90))
  simp only [World.size_alloc] at h2 h3
  exact ⟨Blk.alloc (Blk.alloc h1 _) _, Blk.alloc h2 _, h3, ((((Below.refl _ _).alloc (Nat.le_refl _) _).alloc (by simp) _).alloc (by simp; omega) _)⟩
theorem Py.below {w wr w' : World} {m : Mm} {a : List Int} (s : Py w wr m a) (hb : Below wr.heap.size wr w') : Py w w' m a :=
  ⟨Blk.below' s.A hb, Blk.below' s.F hb, Blk.below' s.R hb, s.bel.trans (hb.mono s.bel.size)⟩
theorem Py.lt {w wr : World} {m : Mm} {a : List Int} (s : Py w wr m a) : w.heap.size + 3 ≤ wr.heap.size := Blk.lt s.R
def PlayA (w : World) (mm : Mm) (ys : List Int) (e : Ending) (w' : World) : Prop := ∃ A c, e = .returned (.tuple #[.agg mm.ag, .slice A ys.length c]) ∧ Own w' w.heap.size A c ys ∧ Below w.heap.size w w'

set_option maxHeartbeats 4000000 in
theorem play_any (m : Mm) (k : m.ok) (a x : List Int) (A : Option Addr) (c n : Nat) (w : World) (ha : a.length = 9) (hr : Rs w w.heap.size A x) (hn : x.length = n) (hl : n ≤ 40) :
    Calls Tryz.prog 68 #[.agg m.ag, .agg (agi a), .slice A n c] w (PlayA w { m with p := playP a m.p x } (playY a m.p x)) := by
  have hR := results_mem2 (fn := Tryz.f68) (p := 6) (q := 7) rfl
  have S0 := hid (Py.start w m a)
  have K := hid k
  have HA := hid ha
  have QL := hid (playP_len (a := a) (x := x) k.p)
  have HX := hid ((hr.below S0.out.bel).more S0.out.bel.size)
  have KM := hid (fun W (hr : Rs W W.heap.size A x) => show Calls Tryz.prog 90 #[.agg (agi a), .agg (ints m.p).toArray, .slice A n c] W (NewSP W (playY a m.p x) (playP a m.p x) (errOf (goodF a m.p x))) from by
    have := synthMake_any a m.p x A c n W ha k.p hr hn (by omega)
    unfold playY playP
    rw [hn]
    exact this)
  have hi8 : (Tryz.prog.info? 22).map (·.size) = some (ints m.p).length := by rw [ints_len, k.p]; exact size8'
  have HI8 := hid hi8
  clear k ha hr hn hi8
  generalize hq : playP a m.p x = q at *
  generalize hy : playY a m.p x = y at *
  generalize errOf (goodF a m.p x) = er at *
  clear hq hy
  go_enter Tryz.func68, Tryz.ntmps68
  go_wp2_with (first
    | (refine wpList_loadI rfl 90 (.tmp 4) rfl _ 90 a 9 _ rfl S0.out.F Tryz.underlying90 rfl size9 HA.out ?_)
    | (refine wpList_load_mid rfl 22 (.tmp 13) rfl _ _ rfl (ints m.p) _ (S0.out.A.P K.out) Tryz.underlying22 rfl HI8.out ?_))
  refine (KM.out _ HX.out).mono ?_
  rintro e w1 ⟨A1, c1, rfl, hO, hB⟩
  have S1 := hid (S0.out.below hB)
  have LT0 := hid S0.out.lt
  have O1 := hid (hO.more (base' := w.heap.size + 3) LT0.out)
  clear hO hB S0 HX KM
  have K2 := hid (show ({ m with p := q } : Mm).ok from ⟨K.out.r, QL.out, K.out.e⟩)
  have B2 := hid (below_stored w1 (.cells (agi Z8) 22) (agi q))
  obtain ⟨w2, hw2⟩ : ∃ w2, w2 = (w1.alloc (.cells (agi Z8) 22)).setRow w1.heap.size (agi q) := ⟨_, rfl⟩
  rw [← hw2] at B2
  have S2 := hid (S1.out.below B2.out)
  have Q2 := hid (show IB w2 w1.heap.size 22 q by rw [hw2]; exact IB.stored w1 22 Z8 q)
  have O2 := hid (O1.out.below B2.out)
  rw [z8_eq] at hw2
  have HW2 := hid hw2
  clear hw2
  obtain ⟨w3, hw3⟩ : ∃ w3, w3 = w2.setCells w.heap.size 8 (ints q) := ⟨_, rfl⟩
  have S3 := hid (show Py w w3 { m with p := q } a by
    rw [hw3]
    exact ⟨S2.out.A.set_p K.out q QL.out, blk_sc (by omega) _ _ _ S2.out.F, blk_sc (by omega) _ _ _ S2.out.R, below_sc (Nat.le_refl _) _ _ _ S2.out.bel⟩)
  have O3 := hid (show Own w3 (w.heap.size + 3) A1 c1 y by rw [hw3]; exact Own.setCs (by omega) _ _ _ O2.out)
  have HW3 := hid hw3
  clear hw3
  have hRow := hid (MB.setRow S3.out.R { m with p := q })
  have FIN := hid (below_setRow S3.out.bel (g := w.heap.size + 2) (by omega) ({ m with p := q } : Mm).ag)
  have OF := hid ((O3.out.setRow (g := w.heap.size + 2) (by omega) ({ m with p := q } : Mm).ag).more (base' := w.heap.size) (by omega))
  have SZ := hid (show (Tryz.prog.info? 22).map (·.size) = some (agi q).size from by rw [agi_size, QL.out]; exact size8')
  have TH := hid (show w2.there w.heap.size 8 (agi q).size from by rw [agi_size, QL.out]; exact S2.out.A.thereP K.out)
  go_wp2_with (first
    | (refine wpList_storeI rfl 22 (.tmp 9) (.tmp 18) rfl _ 22 Z8 q 8 rfl rfl (IB.new w1 22 Z8) size8' rfl QL.out ?_; rw [← HW2.out])
    | (refine wpList_loadI rfl 22 (.tmp 9) rfl _ 22 q 8 _ rfl Q2.out Tryz.underlying22 rfl size8' QL.out ?_)
    | (refine wpList_store_mid rfl 22 (.tmp 21) (.tmp 20) rfl w.heap.size 8 (agi q) rfl rfl TH.out SZ.out (agi_one _) ?_; rw [show (agi q).toList = ints q from rfl, ← HW3.out])
    | (refine wpList_loadM rfl (.tmp 3) rfl _ { m with p := q } rfl S3.out.A K2.out ?_)
    | (refine wpList_storeM rfl (.tmp 6) (.tmp 22) rfl _ zeroM { m with p := q } rfl rfl S3.out.R zeroM_ok K2.out ?_))
  refine bodyPost_ret (v := _) (hR _ _ _ { m with p := q } rfl hRow.out K2.out) rfl ?_
  exact ⟨A1, c1, rfl, OF.out, FIN.out⟩
end Go.Proofs.YthoiikkjjaldnaaGreatDoor

/- Whatever is built of numbers and truth values is the same as itself; a packet is. -/
namespace Go.Proofs.YthoiikkjjaldnaaGreatDoor
set_option linter.unusedVariables false
set_option linter.unusedSimpArgs false
set_option maxRecDepth 100000
open Go.RowKit

def SameAt (d : Nat) (t : TypeId) (v : Value) : Prop := ∀ w, (Op.equalIn d t v v).run Tryz.prog w = .ok true w
def PartAt (t : TypeId) (xs : Array Value) (o : Nat) (v : Value) : Prop := ∀ w, (part t xs o).run Tryz.prog w = .ok v w
theorem SameAt.num (d : Nat) (x : Int) : SameAt (d + 1) 3 (.int .i64 x) := fun w => by
  rw [run_equalIn_int w d 3 .i64 .i64 _ _ Tryz.underlying3]
  simp
theorem SameAt.tf (d : Nat) (x : Bool) : SameAt (d + 1) 4 (.bool x) := fun w => by
  rw [run_equalIn_bool' w d 4 _ _ Tryz.underlying4]
  simp
theorem SameAt.arr (d : Nat) {t : TypeId} {n : Nat} (ht : Tryz.prog.underlying t = some (.array n 3)) (xs : List Int) (hl : xs.length = n) : SameAt (d + 2) t (.agg (agi xs)) := run_equalIn_agi d ht xs hl
theorem PartAt.row {t : TypeId} {n o : Nat} (hs : ∀ w, (sizeOf t).run Tryz.prog w = .ok n w) (ha : ∀ w, (isAgg t).run Tryz.prog w = .ok true w) (cs A xs B : List Value) (he : cs = A ++ (xs ++ B)) (ho : A.length = o) (hl : xs.length = n) : PartAt t cs.toArray o (.agg xs.toArray) := fun w => by
  subst he
  subst ho
  subst hl
  have e : (A ++ (xs ++ B)).toArray.extract A.length (A.length + xs.length) = xs.toArray := by
    simp [List.extract_toArray]
  simp only [part, Sem.run_bind, ha, hs, Result.andThen_ok, if_true, Sem.run_pure, e]
theorem PartAt.cell {t : TypeId} {o : Nat} (ha : ∀ w, (isAgg t).run Tryz.prog w = .ok false w) (cs A B : List Value) (v : Value) (he : cs = A ++ (v :: B)) (ho : A.length = o) : PartAt t cs.toArray o v := fun w => by
  subst he
  subst ho
  simp [part, ha]
theorem eqFieldsG (d : Nat) (xs : Array Value) : ∀ fs : List Field, (∀ f ∈ fs, ∃ v, PartAt f.type xs f.offset v ∧ SameAt d f.type v) → ∀ w, (Op.eqFields d xs xs fs).run Tryz.prog w = .ok true w
  | [], _, w => by simp [Op.eqFields]
  | f :: fs, h, w => by
    obtain ⟨v, h1, h2⟩ := h f (by simp)
    have ih := eqFieldsG d xs fs (fun g hg => h g (by simp [hg])) w
    simp only [Op.eqFields, Sem.run_bind, Sem.run_ite]
    split
    · simp only [h1 w, h2 w, Result.andThen_ok, Bool.not_true, Bool.false_eq_true, if_false]
      exact ih
    · exact ih
theorem SameAt.struct {d : Nat} {t : TypeId} (ht : Tryz.prog.underlying t = some (.struct (Tryz.prog.fieldsOf t))) (hp : Tryz.prog.stoodInHeld t = false) (xs : Array Value) (l : List (TypeId × Nat))
    (e : (Tryz.prog.fieldsOf t).toList.map (fun f => (f.type, f.offset)) = l) (h : ∀ p ∈ l, ∃ v, PartAt p.1 xs p.2 v ∧ SameAt d p.1 v) : SameAt (d + 1) t (.agg xs) := fun w => by
  rw [run_equalIn_struct w d t xs xs ht hp]
  exact eqFieldsG d xs _ (fun f hf => h (f.type, f.offset) (by rw [← e]; exact List.mem_map_of_mem hf)) w
theorem SameAt.array {d : Nat} {t e : TypeId} {n k : Nat} (ht : Tryz.prog.underlying t = some (.array n e)) (hs : ∀ w, (sizeOf e).run Tryz.prog w = .ok k w) (xs : Array Value)
    (h : ∀ i, i < n → ∃ v, PartAt e xs (i * k) v ∧ SameAt d e v) : SameAt (d + 1) t (.agg xs) := fun w => by
  rw [Op.equalIn]
  simp only [Sem.run_bind, run_underlying ht, Result.andThen_ok, hs, Std.Legacy.Range.forIn_eq_forIn_range', Std.Legacy.Range.size, Nat.sub_zero, Nat.add_sub_cancel, Nat.div_one]
  have hl2 : ∀ i ∈ List.range' 0 n 1, i < n := fun i hi => by simpa using (List.mem_range'_1.1 hi).2
  generalize List.range' 0 n 1 = l at hl2 ⊢
  induction l with
  | nil => simp
  | cons i l ih =>
    obtain ⟨v, px, pe⟩ := h i (hl2 i (by simp))
    simp only [List.forIn_cons, Sem.run_bind, px w, pe w, Result.andThen_ok]
    simp only [Bool.not_true, Bool.false_eq_true, if_false, Sem.run_pure, Result.andThen_ok]
    exact ih fun j hj => hl2 j (by simp [hj])
theorem SameAt.eql {t : TypeId} {xs : Array Value} (h : SameAt 10000 t (.agg xs)) (w : World) : (binOp .eql t (.agg xs) (.agg xs)).run Tryz.prog w = .ok (.bool true) w := by
  rw [run_eql_struct, h w]
  rfl
theorem SameAt.sub (d : Nat) (u : List Int) (hl : u.length = 8) : SameAt (d + 3) 35 (.agg (agi u)) := by
  match u, hl with
  | [a, b, c0, c1, c2, c3, s, v], _ =>
    refine SameAt.struct (by kernel_rfl) (by kernel_rfl) _ [(3, 0), (3, 1), (33, 2), (3, 6), (3, 7)] (by kernel_rfl) (fun p hp => ?_)
    simp only [List.mem_cons, List.not_mem_nil, or_false] at hp
    rcases hp with rfl | rfl | rfl | rfl | rfl
    · exact ⟨_, PartAt.cell (fun _ => by kernel_rfl) (ints [a, b, c0, c1, c2, c3, s, v]) [] _ (.int .i64 a) rfl rfl, SameAt.num _ a⟩
    · exact ⟨_, PartAt.cell (fun _ => by kernel_rfl) (ints [a, b, c0, c1, c2, c3, s, v]) (ints [a]) _ (.int .i64 b) rfl rfl, SameAt.num _ b⟩
    · exact ⟨_, PartAt.row (n := 4) (fun _ => by kernel_rfl) (fun _ => by kernel_rfl) (ints [a, b, c0, c1, c2, c3, s, v]) (ints [a, b]) (ints [c0, c1, c2, c3]) _ rfl rfl rfl, SameAt.arr d Tryz.underlying33 [c0, c1, c2, c3] rfl⟩
    · exact ⟨_, PartAt.cell (fun _ => by kernel_rfl) (ints [a, b, c0, c1, c2, c3, s, v]) (ints [a, b, c0, c1, c2, c3]) _ (.int .i64 s) rfl rfl, SameAt.num _ s⟩
    · exact ⟨_, PartAt.cell (fun _ => by kernel_rfl) (ints [a, b, c0, c1, c2, c3, s, v]) (ints [a, b, c0, c1, c2, c3, s]) _ (.int .i64 v) rfl rfl, SameAt.num _ v⟩
theorem ints_cut (ps : List Int) (o n : Nat) : ints ps = ints (ps.take o) ++ (ints ((ps.drop o).take n) ++ ints (ps.drop (o + n))) := by
  rw [ints_append, ints_append, ← List.drop_drop, List.take_append_drop, List.take_append_drop]
theorem part_cut {t : TypeId} {n : Nat} (hs : ∀ w, (sizeOf t).run Tryz.prog w = .ok n w) (ha : ∀ w, (isAgg t).run Tryz.prog w = .ok true w) (ps : List Int) (o : Nat) (h : o + n ≤ ps.length) : PartAt t (agi ps) o (.agg (agi ((ps.drop o).take n))) :=
  PartAt.row hs ha (ints ps) (ints (ps.take o)) (ints ((ps.drop o).take n)) _ (ints_cut ps o n) (by rw [ints_len, List.length_take]; omega) (by rw [ints_len, List.length_take, List.length_drop]; omega)
theorem part_one (ps : List Int) (o : Nat) (h : o < ps.length) : PartAt 3 (agi ps) o (.int .i64 (ps.getD o 0)) := fun w => by
  have ha : ∀ w, (isAgg 3).run Tryz.prog w = .ok false w := fun w => by kernel_rfl
  have hg := agi_get ps o h
  simp [part, ha, hg]
theorem SameAt.subs (d : Nat) (us : List Int) (hl : us.length = 16) : SameAt (d + 4) 36 (.agg (agi us)) :=
  SameAt.array (k := 8) Tryz.underlying36 (fun _ => by kernel_rfl) _ (fun i hi => ⟨_, part_cut (n := 8) (fun _ => by kernel_rfl) (fun _ => by kernel_rfl) us (i * 8) (by omega), SameAt.sub d ((us.drop (i * 8)).take 8) (by rw [List.length_take, List.length_drop]; omega)⟩)
/-- A packet is the same as itself. -/
theorem run_eql_packet (ps : List Int) (hl : ps.length = 25) (w : World) : (binOp .eql 38 (.agg (agi ps)) (.agg (agi ps))).run Tryz.prog w = .ok (.bool true) w := by
  refine SameAt.eql (SameAt.struct (d := 9999) (by kernel_rfl) (by kernel_rfl) _ [(3, 0), (22, 1), (36, 9)] (by kernel_rfl) (fun p hp => ?_)) w
  simp only [List.mem_cons, List.not_mem_nil, or_false] at hp
  rcases hp with rfl | rfl | rfl
  · exact ⟨_, part_one ps 0 (by omega), SameAt.num 9998 _⟩
  · exact ⟨_, part_cut (n := 8) (fun _ => by kernel_rfl) (fun _ => by kernel_rfl) ps 1 (by omega), SameAt.arr 9997 Tryz.underlying22 _ (by rw [List.length_take, List.length_drop]; omega)⟩
  · exact ⟨_, part_cut (n := 16) (fun _ => by kernel_rfl) (fun _ => by kernel_rfl) ps 9 (by omega), SameAt.subs 9995 ((ps.drop 9).take 16) (by rw [List.length_take, List.length_drop]; omega)⟩
end Go.Proofs.YthoiikkjjaldnaaGreatDoor

/- Package coder's half and filter. -/
namespace Go.Proofs.YthoiikkjjaldnaaGreatDoor
set_option linter.unusedVariables false
set_option linter.unusedSimpArgs false
set_option maxRecDepth 100000
open Go.RowKit

theorem IB.mid {w : World} {g : Nat} {t : TypeId} {ps : List Int} (h : IB w g t ps) (o n : Nat) (ho : o ≤ ps.length) : w.rangeAt g o (ints ((ps.drop o).take n)) :=
  range_of h (ints (ps.take o)) (ints ((ps.drop o).take n)) (ints (ps.drop (o + n))) (ints_cut ps o n) (by rw [ints_len, List.length_take]; omega)
section
variable {w : World} {g : Nat} {m : Mm}
theorem MB.set_la (h : MB w g m) (k : m.ok) (x : Int) : MB (w.setCell ⟨g, 98, none⟩ (.int .i64 x)) g { m with la := x } := h.set_tl k 2 (.int .i64 x) _ rfl rfl rfl rfl (by omega)
theorem MB.set_pi (h : MB w g m) (k : m.ok) (x : Int) : MB (w.setCell ⟨g, 97, none⟩ (.int .i64 x)) g { m with pi := x } := h.set_tl k 1 (.int .i64 x) _ rfl rfl rfl rfl (by omega)
theorem MB.set_ga (h : MB w g m) (k : m.ok) (x : Int) : MB (w.setCell ⟨g, 96, none⟩ (.int .i64 x)) g { m with ga := x } := h.set_tl k 0 (.int .i64 x) _ rfl rfl rfl rfl (by omega)
theorem MB.set_si (h : MB w g m) (k : m.ok) (x : Bool) : MB (w.setCell ⟨g, 101, none⟩ (.bool x)) g { m with si := x } := h.set_tl k 5 (.bool x) _ rfl rfl rfl rfl (by omega)
end
theorem below_sc3 {B b : Nat} {a w : World} (hb : B ≤ b) (h : Below B a w) (i j k : Nat) (x y z : Value) : Below B a (((w.setCell ⟨b, i, none⟩ x).setCell ⟨b, j, none⟩ y).setCell ⟨b, k, none⟩ z) := ((h.setCell hb x).setCell hb y).setCell hb z
theorem blk_sc3 {g b : Nat} {w : World} {t : TypeId} {cs : Array Value} (hb : g ≠ b) (h : Blk w g t cs) (i j k : Nat) (x y z : Value) : Blk (((w.setCell ⟨b, i, none⟩ x).setCell ⟨b, j, none⟩ y).setCell ⟨b, k, none⟩ z) g t cs :=
  Blk.far (Blk.far (Blk.far h (p := ⟨b, i, none⟩) hb x) (p := ⟨b, j, none⟩) hb y) (p := ⟨b, k, none⟩) hb z
theorem own_sc3 {base b c : Nat} {w : World} {A : Option Addr} {xs : List Int} (hb : b < base) (h : Own w base A c xs) (i j k : Nat) (x y z : Value) : Own (((w.setCell ⟨b, i, none⟩ x).setCell ⟨b, j, none⟩ y).setCell ⟨b, k, none⟩ z) base A c xs :=
  Own.setC (Own.setC (Own.setC h hb i x) hb j y) hb k z
/-- The boxes of half: the memory, the predictor, the numbers, the answer's. -/
structure Hv (w wr : World) (m : Mm) (a u : List Int) : Prop where
  A : MB wr w.heap.size m
  F : IB wr (w.heap.size + 1) 90 a
  U : IB wr (w.heap.size + 2) 35 u
  R : MB wr (w.heap.size + 3) zeroM
  bel : Below w.heap.size w wr
theorem Hv.start (w : World) (m : Mm) (a u : List Int) : Hv w ((((w.alloc (.cells m.ag 25)).alloc (.cells (agi a) 90)).alloc (.cells (agi u) 35)).alloc (.cells Tryz.zeroCells25 25)) m a u := by
  have h1 := MB.new w m
  have h2 := IB.new (w.alloc (.cells m.ag 25)) 90 a
  have h3 := IB.new ((w.alloc (.cells m.ag 25)).alloc (.cells (agi a) 90)) 35 u
  have h4 := newzero (((w.alloc (.cells m.ag 25)).alloc (.cells (agi a) 90)).alloc (.cells (agi u) 35))
  simp only [World.size_alloc] at h2 h3 h4
  exact ⟨Blk.alloc (Blk.alloc (Blk.alloc h1 _) _) _, Blk.alloc (Blk.alloc h2 _) _, Blk.alloc h3 _, h4, ((((Below.refl _ _).alloc (Nat.le_refl _) _).alloc (by simp) _).alloc (by simp; omega) _).alloc (by simp; omega) _⟩
section
variable {w wr w' : World} {m : Mm} {a u : List Int}
theorem Hv.below (s : Hv w wr m a u) (hb : Below wr.heap.size wr w') : Hv w w' m a u :=
  ⟨Blk.below' s.A hb, Blk.below' s.F hb, Blk.below' s.U hb, Blk.below' s.R hb, s.bel.trans (hb.mono s.bel.size)⟩
theorem Hv.lt (s : Hv w wr m a u) : w.heap.size + 4 ≤ wr.heap.size := Blk.lt s.R
theorem Hv.setE (s : Hv w wr m a u) (k : m.ok) (e : List Int) (he : e.length = 80) : Hv w (wr.setCells w.heap.size 16 (ints e)) { m with e := e } a u :=
  ⟨s.A.set_e k e he, blk_sc (by omega) _ _ _ s.F, blk_sc (by omega) _ _ _ s.U, blk_sc (by omega) _ _ _ s.R, below_sc (Nat.le_refl _) _ _ _ s.bel⟩
theorem Hv.set3 (s : Hv w wr m a u) (k : m.ok) (x y z : Int) : Hv w (((wr.setCell ⟨w.heap.size, 98, none⟩ (.int .i64 x)).setCell ⟨w.heap.size, 97, none⟩ (.int .i64 y)).setCell ⟨w.heap.size, 96, none⟩ (.int .i64 z)) { m with la := x, pi := y, ga := z } a u :=
  ⟨((s.A.set_la k x).set_pi ⟨k.r, k.p, k.e⟩ y).set_ga ⟨k.r, k.p, k.e⟩ z, blk_sc3 (by omega) s.F _ _ _ _ _ _, blk_sc3 (by omega) s.U _ _ _ _ _ _, blk_sc3 (by omega) s.R _ _ _ _ _ _, below_sc3 (Nat.le_refl _) s.bel _ _ _ _ _ _⟩
end
theorem size4h : (Tryz.prog.info? 33).map (·.size) = some 4 := by kernel_rfl

set_option maxHeartbeats 4000000 in
theorem half_any (m : Mm) (k : m.ok) (a u : List Int) (w : World) (T1 : TabA w 4 rootsL) (T2 : TabA w 2 gainsL) (ha : a.length = 9) (hu : UOk u) :
    Calls Tryz.prog 46 #[.agg m.ag, .agg (agi a), .agg (agi u)] w (PlayA w { spM m u with p := playP a m.p (spX m u) } (playY a m.p (spX m u))) := by
  have hR := results_mem2 (fn := Tryz.f46) (p := 6) (q := 7) rfl
  have S0 := Hv.start w m a u
  obtain ⟨V, hV⟩ : ∃ V, V = ((((w.alloc (.cells m.ag 25)).alloc (.cells (agi a) 90)).alloc (.cells (agi u) 35)).alloc (.cells Tryz.zeroCells25 25)) := ⟨_, rfl⟩
  rw [← hV] at S0
  have HV := hid hV.symm
  have S0 := hid S0
  have K := hid k
  have HA := hid ha
  have UL := hid hu.l
  have h59 := hu.a
  have KL := hid (gainLevel_any (u.getD 7 0) V (T1.below S0.out.bel))
  have KG := hid (pitchGain_any (u.getD 1 0) V (T2.below S0.out.bel))
  have rg := glV_range (u.getD 7 0)
  have KB := hid (show Calls Tryz.prog 102 #[.agg (ints ((u.drop 2).take 4)).toArray, .int .i64 (u.getD 6 0), .int .i64 (glV (u.getD 7 0))] V (NewSE V (spC u) (errOf (blB (uI u) (u.getD 6 0) (glV (u.getD 7 0))))) from pulsesBuild_any (uI u) (u.getD 6 0) (glV (u.getD 7 0)) V (uI_len hu.l) (by omega) (by omega))
  have CL := hid (spC_len hu)
  have XL := hid (spX_len hu m)
  have KX := hid (fun W A c (h : Rs W W.heap.size A (spC u)) => show Calls Tryz.prog 106 #[.agg (ints m.e).toArray, .int .i64 (20 + u.getD 0 0), .int .i64 (gainV (u.getD 1 0)), .slice A 40 c] W (NewSE W (spX m u) (mxR (20 + u.getD 0 0) (gainV (u.getD 1 0)) 40)) from mix_any m.e (spC u) _ _ A c 40 W k.e h (spC_len hu) (by omega))
  have KK := hid (fun W A c (h : Rs W W.heap.size A (spX m u)) => show Calls Tryz.prog 107 #[.agg (ints m.e).toArray, .slice A 40 c] W (fun e w' => e = .returned (.tuple #[.agg (agi (keepL m.e (spX m u))), .int .i64 0]) ∧ Below W.heap.size W w') from keep_any m.e _ A c 40 W k.e h (spX_len hu m) (by omega))
  have EL := hid (keepL_len k.e (spX_len hu m))
  have KP := hid (fun W A c (h : Rs W W.heap.size A (spX m u)) => show Calls Tryz.prog 68 #[.agg (spM m u).ag, .agg (agi a), .slice A 40 c] W (PlayA W { spM m u with p := playP a m.p (spX m u) } (playY a m.p (spX m u))) from play_any (spM m u) (spM_ok k hu) a _ A c 40 W ha h (spX_len hu m) (by omega))
  have FM := hid (show spM m u = { m with e := keepL m.e (spX m u), la := 20 + u.getD 0 0, pi := gainV (u.getD 1 0), ga := glV (u.getD 7 0) } from rfl)
  have OKF := hid (show ({ spM m u with p := playP a m.p (spX m u) } : Mm).ok from (spM_ok k hu).pp (playP_len k.p))
  have OKS := hid (spM_ok k hu)
  have hi80 : (Tryz.prog.info? 23).map (·.size) = some (ints m.e).length := by rw [ints_len, k.e]; exact size80k
  have HI80 := hid hi80
  have hi4 : (Tryz.prog.info? 33).map (·.size) = some (ints ((u.drop 2).take 4)).length := by rw [ints_len, show ((u.drop 2).take 4).length = 4 from uI_len hu.l]; exact size4h
  have HI4 := hid hi4
  have SZ := hid (show (Tryz.prog.info? 23).map (·.size) = some (agi (keepL m.e (spX m u))).size from by rw [agi_size, keepL_len k.e (spX_len hu m)]; exact size80k)
  have c7 := S0.out.U.cell 7 (by rw [hu.l]; omega)
  have c1 := S0.out.U.cell 1 (by rw [hu.l]; omega)
  have c6 := S0.out.U.cell 6 (by rw [hu.l]; omega)
  clear k ha hu hi80 hi4 T1 T2 rg hV
  generalize ({ spM m u with p := playP a m.p (spX m u) } : Mm) = mf at *
  generalize playY a m.p (spX m u) = yf at *
  generalize spM m u = ms at *
  generalize spX m u = x at *
  generalize spC u = code at *
  generalize errOf (blB (uI u) (u.getD 6 0) (glV (u.getD 7 0))) = er1 at *
  generalize mxR (20 + u.getD 0 0) (gainV (u.getD 1 0)) 40 = er2 at *
  generalize errOf (glB (u.getD 7 0)) = er3 at *
  generalize errOf (gainB (u.getD 1 0)) = er4 at *
  generalize gainV (u.getD 1 0) = g at *
  generalize glV (u.getD 7 0) = size at *
  generalize keepL m.e x = e2 at *
  generalize u.getD 7 0 = l7 at *
  generalize u.getD 1 0 = l1 at *
  generalize u.getD 6 0 = l6 at *
  obtain ⟨l0, hl0⟩ : ∃ l0, l0 = u.getD 0 0 := ⟨_, rfl⟩
  have HL0 := hid hl0
  rw [← hl0] at KX FM h59
  clear hl0
  go_enter Tryz.func46, Tryz.ntmps46
  go_wp2_with (first
    | (rw [HV.out]; clear HV)
    | (go_at_call 105; (with_reducible refine KL.out.mono ?_); rintro e w' ⟨rfl, rfl⟩)
    | (go_at_call 97; (with_reducible refine KG.out.mono ?_); rintro e w' ⟨rfl, rfl⟩)
    | (refine wpList_load_mid rfl 33 (.tmp 29) rfl _ _ rfl (ints ((u.drop 2).take 4)) _ (S0.out.U.mid 2 4 (by rw [UL.out]; omega)) Tryz.underlying33 rfl HI4.out ?_)
    | (go_at_call 102; (with_reducible refine KB.out.mono ?_); rintro e w1 ⟨A1, c1', rfl, hO, hB⟩; have S1 := hid (S0.out.below hB); have O1 := hid hO.reads; clear hO hB; rw [CL.out]; have cu := S1.out.U.cell 0 (by rw [UL.out]; omega); rw [← HL0.out] at cu)
    | (refine wpList_load_mid rfl 23 (.tmp 38) rfl _ _ rfl (ints m.e) _ (S1.out.A.E K.out) Tryz.underlying23 rfl HI80.out ?_)
    | (go_at_call 106; (with_reducible refine (KX.out w1 A1 c1' O1.out).mono ?_); rintro e w2 ⟨A2, c2, rfl, hO, hB⟩; have S2 := hid (S1.out.below hB); have O2 := hid hO; have LT1 := hid S1.out.lt; clear hO hB; rw [XL.out])
    | (refine wpList_load_mid rfl 23 (.tmp 49) rfl _ _ rfl (ints m.e) _ (S2.out.A.E K.out) Tryz.underlying23 rfl HI80.out ?_))
  refine (KK.out w2 A2 c2 O2.out.reads).mono ?_
  rintro e w3 ⟨rfl, hB⟩
  have S3 := hid (S2.out.below hB)
  have O3 := hid (O2.out.below hB)
  clear hB
  have S4 := hid (S3.out.setE K.out e2 EL.out)
  have O4 := hid (Own.setCs (g := w.heap.size) (by have := LT1.out; omega) (ints e2) 16 _ O3.out)
  have TH := hid (show w3.there w.heap.size 16 (agi e2).size from by rw [agi_size, EL.out]; exact S3.out.A.thereE K.out)
  obtain ⟨w4, hw4⟩ : ∃ w4, w4 = w3.setCells w.heap.size 16 (ints e2) := ⟨_, rfl⟩
  rw [← hw4] at S4 O4
  have HW4 := hid hw4
  have K4 := hid (K.out.ex EL.out)
  have cu4 := S4.out.U.cell 0 (by rw [UL.out]; omega)
  rw [← HL0.out] at cu4
  have d98 := S4.out.A.cla K4.out
  have d97 := S4.out.A.cpi K4.out
  have d96 := S4.out.A.cga K4.out
  have f98 := MB.frozen S4.out.A 98
  have f97 := MB.frozen S4.out.A 97
  have f96 := MB.frozen S4.out.A 96
  have S5 := hid (show Hv w _ ms a u from FM.out ▸ S4.out.set3 K4.out (20 + l0) g size)
  have O5 := hid (own_sc3 (b := w.heap.size) (by have := LT1.out; omega) O4.out 98 97 96 (.int .i64 (20 + l0)) (.int .i64 g) (.int .i64 size))
  obtain ⟨w5, hw5⟩ : ∃ w5, w5 = ((w4.setCell ⟨w.heap.size, 98, none⟩ (.int .i64 (20 + l0))).setCell ⟨w.heap.size, 97, none⟩ (.int .i64 g)).setCell ⟨w.heap.size, 96, none⟩ (.int .i64 size) := ⟨_, rfl⟩
  rw [← hw5] at S5 O5
  have HW5 := hid hw5.symm
  have hRow := hid (fun W (s : Hv w W ms a u) => MB.setRow s.R mf)
  clear hw4 hw5 S3 S2 S1 S0 O1 O2 O3 KX KK KL KG KB c1 c6 c7 cu
  go_wp2_with (first
    | (refine wpList_store_mid rfl 23 (.tmp 55) (.tmp 53) rfl w.heap.size 16 (agi e2) rfl rfl TH.out SZ.out (agi_one _) ?_; rw [show (agi e2).toList = ints e2 from rfl, ← HW4.out])
    | (rw [HW5.out]; clear HW5 d98 d97 d96 f98 f97 f96 cu4 HW4 TH)
    | (refine wpList_loadM rfl (.tmp 3) rfl _ ms rfl S5.out.A OKS.out ?_)
    | (refine wpList_loadI rfl 90 (.tmp 4) rfl _ 90 a 9 _ rfl S5.out.F Tryz.underlying90 rfl size9 HA.out ?_)
    | (go_at_call 68; (with_reducible refine (KP.out w5 A2 c2 O5.out.reads).mono ?_); rintro e w6 ⟨A6, c6, rfl, hO, hB⟩; have S6 := hid (S5.out.below hB); have O6 := hid hO; have SZ5 := hid S5.out.lt; clear hO hB)
    | (refine wpList_storeM rfl (.tmp 6) (.tmp 68) rfl _ zeroM mf rfl rfl S6.out.R zeroM_ok OKF.out ?_))
  have FIN := hid (below_setRow S6.out.bel (g := w.heap.size + 3) (by omega) mf.ag)
  have OF := hid ((O6.out.setRow (g := w.heap.size + 3) (by have := SZ5.out; omega) mf.ag).more (base' := w.heap.size) (by have := SZ5.out; omega))
  refine bodyPost_ret (v := _) (hR _ _ _ mf rfl (hRow.out _ S6.out) OKF.out) rfl ?_
  exact ⟨A6, c6, rfl, OF.out, FIN.out⟩
end Go.Proofs.YthoiikkjjaldnaaGreatDoor

/- A region that draws its order, walked in one order that is named: first what yields in whatever world, then what is quiet in a class of worlds, then a tail in which whatever touches memory waits for what stands ahead of it. -/
namespace Go.Proofs.YthoiikkjjaldnaaGreatDoor
set_option linter.unusedVariables false
set_option linter.unusedSimpArgs false
set_option maxRecDepth 100000
open Go.RowKit

/-- The operations of these numbers. -/
def opsAt (ops : Array Oper) : List Nat → List Oper
  | [] => []
  | i :: r => match ops[i]? with
    | some o => o :: opsAt ops r
    | none => opsAt ops r
/-- Numbers of operations, each of which there is. -/
def opsIn (ops : Array Oper) (l : List Nat) : Bool := l.all (fun i => decide (i < ops.size))
theorem opsAt_cons {ops : Array Oper} {i : Nat} {o : Oper} (h : ops[i]? = some o) (r : List Nat) : opsAt ops (i :: r) = o :: opsAt ops r := by simp only [opsAt, h]
/-- Does each of the head's numbers wait to be ahead of a later one, or of the first of the tail? -/
def sinkL (md : Region.Mode) (ops : Array Oper) (s : Nat) : List Nat → Bool
  | [] => true
  | i :: r => (Region.waitsFor md ops s i || r.any (fun j => Region.waitsFor md ops j i)) && sinkL md ops s r
def chainL (md : Region.Mode) (ops : Array Oper) : List Nat → List Nat → Bool
  | _, [] => true
  | seen, t :: r => seen.any (fun j => Region.waitsFor md ops t j) && chainL md ops (t :: seen) r
/-- An operation that hands a value on. -/
def handsOn (ops : Array Oper) (i : Nat) : Bool := match ops[i]? with
  | some o => match o.op with
    | .move _ => true
    | .assign _ => true
    | .extract _ _ => true
    | _ => false
  | none => false
def tailL (md : Region.Mode) (ops : Array Oper) : List Nat → Array Bool → Bool
  | [], listed => (Region.ready md ops listed).isEmpty
  | k :: r, listed => decide (Region.ready md ops listed = [k]) && tailL md ops r (listed.setIfInBounds k true) ||
      ((Region.ready md ops listed).contains k && Region.free md ops listed k && handsOn ops k) && tailL md ops r (listed.setIfInBounds k true)
def headL (md : Region.Mode) (ops : Array Oper) (tl : List Nat) : List Nat → Array Bool → Bool
  | [], listed => (Region.ready md ops listed).all (fun j => tl.contains j) && tailL md ops tl listed
  | k :: r, listed => (Region.ready md ops listed).contains k && Region.free md ops listed k && headL md ops tl r (listed.setIfInBounds k true)
def floatL (md : Region.Mode) (ops : Array Oper) (hd tl : List Nat) : List Nat → Array Bool → Bool
  | [], listed => (List.range ops.size).all (fun i => listed.getD i true || hd.contains i || tl.contains i) && tl.all (fun t => !listed.getD t true) && headL md ops tl hd listed
  | k :: r, listed => (Region.ready md ops listed).contains k && Region.free md ops listed k && floatL md ops hd tl r (listed.setIfInBounds k true)
def ordB (md : Region.Mode) (ops : Array Oper) (fl hd tl : List Nat) : Bool :=
  Region.noSelect ops && (match tl with | [] => false | s :: r => sinkL md ops s hd && chainL md ops [s] r) && hd.all (fun i => !tl.contains i) && opsIn ops fl && opsIn ops hd && opsIn ops tl && floatL md ops hd tl fl (Array.replicate ops.size false)

section
variable {P : Program} {ops : Array Oper} {md : Region.Mode} {C : World → Prop} {Q : Exit → Act → World → Prop}
structure HInv (md : Region.Mode) (ops : Array Oper) (tl : List Nat) (listed : Array Bool) : Prop where
  size : listed.size = ops.size
  closed : ∀ j oj, ops[j]? = some oj → listed.getD j false = true → ∀ e ∈ oj.after, Region.binds md e = true → listed.getD e.on false = true
  tail : ∀ t ∈ tl, listed.getD t true = false
theorem HInv.set {tl : List Nat} {i : Nat} {listed : Array Bool} (inv : HInv md ops tl listed) (hi : i ∈ Region.ready md ops listed) (hin : i ∉ tl) : HInv md ops tl (listed.setIfInBounds i true) := by
  obtain ⟨_, oi, hoi, hall⟩ := mem_ready.1 hi
  refine ⟨by simp [inv.size], fun j oj hj hl e he hb => ?_, fun t ht => by rw [getD_set_ne true (by rintro rfl; exact hin ht)]; exact inv.tail t ht⟩
  by_cases hij : i = j
  · subst hij
    have : oj = oi := Option.some.inj (hj.symm.trans hoi)
    subst this
    exact getD_set_true (hall e he hb)
  · rw [getD_set_ne false hij] at hl
    exact getD_set_true (inv.closed j oj hj hl e he hb)
theorem waits_off {listed : Array Bool} {t i : Nat} (h : Region.waitsFor md ops t i = true) (hun : listed.getD i true = false) : t ∉ Region.ready md ops listed := by
  intro hr
  obtain ⟨ot, hot, e, he, hb, hon⟩ := Region.waitsFor_spec h
  obtain ⟨_, o', ho', hall⟩ := mem_ready.1 hr
  have : o' = ot := Option.some.inj (ho'.symm.trans hot)
  subst this
  have h2 := hall e he hb
  rw [hon, getD_both hun] at h2
  cases h2
theorem sink_off {s : Nat} {tl : List Nat} {listed : Array Bool} (inv : HInv md ops tl listed) : ∀ l : List Nat, sinkL md ops s l = true → ∀ i ∈ l, listed.getD i true = false → s ∉ Region.ready md ops listed
  | [], _, i, hi, _ => by cases hi
  | k :: r, h, i, hi, hun => by
    simp only [sinkL, Bool.and_eq_true, Bool.or_eq_true] at h
    rcases List.mem_cons.1 hi with rfl | hi
    · rcases h.1 with h1 | h1
      · exact waits_off h1 hun
      · obtain ⟨j, hj, hw⟩ := List.any_eq_true.1 h1
        cases hl : listed.getD j true with
        | false => exact sink_off inv r h.2 j hj hl
        | true =>
          obtain ⟨oj, hoj, e, he, hb, hon⟩ := Region.waitsFor_spec hw
          have hj' : j < listed.size := by rw [inv.size]; exact (Array.getElem?_eq_some_iff.1 hoj).1
          have hjs : listed.getD j false = true := by simp [hj'] at hl ⊢; exact hl
          have h2 := inv.closed j oj hoj hjs e he hb
          rw [hon, getD_both hun] at h2
          cases h2
    · exact sink_off inv r h.2 i hi hun
theorem chain_off {tl : List Nat} {listed : Array Bool} (inv : HInv md ops tl listed) : ∀ (l seen : List Nat), chainL md ops seen l = true → (∀ j ∈ seen, j ∈ tl) → (∀ j ∈ l, j ∈ tl) → ∀ t ∈ l, t ∉ Region.ready md ops listed
  | [], _, _, _, _, t, ht => by cases ht
  | k :: r, seen, h, hs, hl, t, ht => by
    simp only [chainL, Bool.and_eq_true] at h
    rcases List.mem_cons.1 ht with rfl | ht
    · obtain ⟨j, hj, hw⟩ := List.any_eq_true.1 h.1
      exact waits_off hw (inv.tail j (hs j hj))
    · refine chain_off inv r (k :: seen) h.2 (fun j hj => ?_) (fun j hj => hl j (List.mem_cons_of_mem _ hj)) t ht
      rcases List.mem_cons.1 hj with rfl | hj
      · exact hl _ (List.mem_cons_self ..)
      · exact hs j hj
/-- While one of the head's has not come up, none of the tail may. -/
theorem tail_off {s : Nat} {r hd : List Nat} {listed : Array Bool} (inv : HInv md ops (s :: r) listed) (h1 : sinkL md ops s hd = true) (h2 : chainL md ops [s] r = true) {i : Nat} (hi : i ∈ hd) (hun : listed.getD i true = false) :
    ∀ t ∈ s :: r, t ∉ Region.ready md ops listed := fun t ht => by
  rcases List.mem_cons.1 ht with rfl | ht
  · exact sink_off inv hd h1 i hi hun
  · exact chain_off inv r [s] h2 (fun j hj => by rw [List.mem_singleton.1 hj]; exact List.mem_cons_self ..) (fun j hj => List.mem_cons_of_mem _ hj) t ht

/-- Whatever order is picked among the head's. -/
def wpAnyLQ (P : Program) (md : Region.Mode) (ops : Array Oper) (C : World → Prop) (hd : List Nat) (L : Array Bool → Act → Prop) : Nat → Array Bool → Act → Prop
  | 0, listed, a => L listed a
  | f + 1, listed, a =>
    Region.ready md ops listed ≠ [] ∧ ∀ i ∈ Region.ready md ops listed, i ∈ hd ∧ qOp P ops C i (wpAnyLQ P md ops C hd L f (listed.setIfInBounds i true)) a
theorem wpAny_of_headQ {hd : List Nat} {g : Nat} {L : Array Bool → Act → Prop} (hL : ∀ listed a w, C w → L listed a → wpAny P md ops Q g listed a w) :
    ∀ (f : Nat) (listed : Array Bool) (a : Act) (w : World), C w → wpAnyLQ P md ops C hd L f listed a → wpAny P md ops Q (f + g) listed a w
  | 0, listed, a, w, hw, h => by rw [Nat.zero_add]; exact hL _ _ _ hw h
  | f + 1, listed, a, w, hw, h => by
    rw [show f + 1 + g = (f + g) + 1 by omega]
    exact ⟨fun h0 => absurd h0 h.1, fun i hi => wpOp_of_qOp hw (fun a' w' hw' h' => wpAny_of_headQ hL f _ a' w' hw' h') (h.2 i hi).2⟩
theorem getD_set_trueD {listed : Array Bool} {i k : Nat} (h : listed.getD i true = true) : (listed.setIfInBounds k true).getD i true = true := by
  by_cases e : k = i
  · subst e
    rcases Nat.lt_or_ge k listed.size with h' | h'
    · simp [h']
    · simp [Array.getElem?_eq_none h']
  · rw [getD_set_ne true e]; exact h
/-- What is left: each number is listed, or of the head, or of the tail. -/
def covers (ops : Array Oper) (hd tl : List Nat) (listed : Array Bool) : Prop := ∀ i, i < ops.size → listed.getD i true = true ∨ i ∈ hd ∨ i ∈ tl
theorem covers.set {hd tl : List Nat} {listed : Array Bool} (h : covers ops hd tl listed) (k : Nat) : covers ops hd tl (listed.setIfInBounds k true) := fun i hi => by
  rcases h i hi with h | h
  · exact .inl (getD_set_trueD h)
  · exact .inr h
theorem in_head {s : Nat} {r hd : List Nat} {listed : Array Bool} (inv : HInv md ops (s :: r) listed) (hc : covers ops hd (s :: r) listed) (h1 : sinkL md ops s hd = true) (h2 : chainL md ops [s] r = true) {i : Nat} (hi : i ∈ hd) (hun : listed.getD i true = false)
    {j : Nat} (hj : j ∈ Region.ready md ops listed) : j ∈ hd := by
  obtain ⟨hjun, oj, hoj, _⟩ := mem_ready.1 hj
  rcases hc j (Array.getElem?_eq_some_iff.1 hoj).1 with h | h | h
  · rw [hjun] at h; cases h
  · exact h
  · exact absurd hj (tail_off inv h1 h2 hi hun j h)
theorem wpAnyLQ_first {s i : Nat} {r hd : List Nat} {oi : Oper} {v : Value} {L : Array Bool → Act → Prop} (hi : ops[i]? = some oi) (hsel : ∀ (j : Nat) (o : Oper) cs b, ops[j]? = some o → o.op ≠ .select cs b)
    (h1 : sinkL md ops s hd = true) (h2 : chainL md ops [s] r = true) (hdis : ∀ j ∈ hd, j ∉ s :: r) (hin : i ∈ hd)
    (hdone : ∀ listed a, L listed a → ∀ j ∈ Region.ready md ops listed, j ∈ s :: r) :
    ∀ (f : Nat) (listed : Array Bool) (a : Act), HInv md ops (s :: r) listed → covers ops hd (s :: r) listed →
      (∀ j oj, ops[j]? = some oj → j ≠ i → listed.getD j true = false → (∀ e ∈ oj.after, Region.binds md e = true → e.on ≠ i) → oi.apart ops oj = true) →
      i ∈ Region.ready md ops listed → YieldsIn P ops C oi v a →
      wpAnyLQ P md ops C hd L f (listed.setIfInBounds i true) (a.put oi.dst v) → wpAnyLQ P md ops C hd L (f + 1) listed a := by
  intro f
  induction f with
  | zero =>
    intro listed a inv hc _ hr hy H
    have hun := (mem_ready.1 hr).1
    refine ⟨fun h => (by rw [h] at hr; cases hr), fun j hj => ?_⟩
    have hjn := in_head inv hc h1 h2 hin hun hj
    refine ⟨hjn, ?_⟩
    by_cases hji : j = i
    · subst hji; exact hy.qOp hi H
    · exact absurd (hdone _ _ H j (ready_mono hj hji)) (hdis j hjn)
  | succ f ih =>
    intro listed a inv hc hfree hr hy H
    have hun := (mem_ready.1 hr).1
    refine ⟨fun h => (by rw [h] at hr; cases hr), fun j hj => ?_⟩
    have hjn := in_head inv hc h1 h2 hin hun hj
    refine ⟨hjn, ?_⟩
    by_cases hji : j = i
    · subst hji; exact hy.qOp hi H
    · have h3 := (H.2 j (ready_mono hj hji)).2
      obtain ⟨hjun, oj, hoj, hall⟩ := mem_ready.1 hj
      have hnot : ∀ e ∈ oj.after, Region.binds md e = true → e.on ≠ i := fun e he hb heq => by
        have h1 := hall e he hb
        rw [heq, getD_both hun] at h1
        cases h1
      have h4 := qOp_put hoj (hfree j oj hoj hji hjun hnot) (fun cs b => hsel i oi cs b hi) (fun cs b => hsel j oj cs b hoj) hy h3
      have hfree' : ∀ k ok, ops[k]? = some ok → k ≠ i → (listed.setIfInBounds j true).getD k true = false →
          (∀ e ∈ ok.after, Region.binds md e = true → e.on ≠ i) → oi.apart ops ok = true := fun k ok hk hki hun hno => by
        refine hfree k ok hk hki ?_ hno
        by_cases hjk : j = k
        · subst hjk; exact hjun
        · rw [getD_set_ne true hjk] at hun; exact hun
      refine qOp_mono (fun a' h5 => ih (listed.setIfInBounds j true) a' (inv.set hj (hdis j hjn)) (hc.set j) hfree' (ready_mono hr (Ne.symm hji)) h5.1 ?_) h4
      rw [Array.setIfInBounds_comm _ _ hji]
      exact h5.2

theorem wpAnyLQ_lex {s : Nat} {r hd : List Nat} {Lq : Act → Prop} (hsel : Region.noSelect ops = true) (h1 : sinkL md ops s hd = true) (h2 : chainL md ops [s] r = true) (hdis : ∀ j ∈ hd, j ∉ s :: r) :
    ∀ (l : List Nat) (listed : Array Bool) (a : Act), (∀ j ∈ l, j ∈ hd) → (∀ j ∈ l, j < ops.size) → HInv md ops (s :: r) listed → covers ops hd (s :: r) listed →
    headL md ops (s :: r) l listed = true → wpQuiet P ops C Lq (opsAt ops l) a →
    wpAnyLQ P md ops C hd (fun listed' a' => ((Region.ready md ops listed').all (fun j => (s :: r).contains j) && tailL md ops (s :: r) listed') = true ∧ Lq a') l.length listed a
  | [], listed, a, _, _, _, _, hB, h => ⟨by simpa [headL] using hB, h⟩
  | k :: l, listed, a, hl, hlt, inv, hc, hB, h => by
    obtain ⟨ok, hok⟩ : ∃ ok, ops[k]? = some ok := ⟨ops[k]'(hlt k (List.mem_cons_self ..)), Array.getElem?_eq_getElem _⟩
    simp only [headL, Bool.and_eq_true] at hB
    obtain ⟨⟨hr, hf⟩, hB'⟩ := hB
    have hr' : k ∈ Region.ready md ops listed := by simpa using hr
    rw [opsAt_cons hok] at h
    have hst : qOp P ops C k (wpQuiet P ops C Lq (opsAt ops l)) a := by unfold qOp; simp only [hok]; exact h
    obtain ⟨v, hy, hK⟩ := yieldsIn_of_qOp hok hst
    exact wpAnyLQ_first hok (Region.noSelect_spec hsel) h1 h2 hdis (hl k (List.mem_cons_self ..)) (fun listed' a' hL j hj => by
        have := hL.1
        simp only [Bool.and_eq_true] at this
        simpa using List.all_eq_true.1 this.1 j hj) l.length listed a inv hc (Region.free_spec hok hf) hr' hy
      (wpAnyLQ_lex hsel h1 h2 hdis l _ _ (fun j hj => hl j (List.mem_cons_of_mem _ hj)) (fun j hj => hlt j (List.mem_cons_of_mem _ hj)) (inv.set hr' (hdis k (hl k (List.mem_cons_self ..)))) (hc.set k) hB' hK)

/-- The tail. -/
theorem hands_on {i : Nat} {o : Oper} (ho : ops[i]? = some o) (h : handsOn ops i = true) {K : Act → World → Prop} {a : Act} {w : World} (hw : wpOp P ops Q i K a w) : ∃ v, Yields P ops o v a ∧ K (a.put o.dst v) w := by
  unfold handsOn at h
  rw [ho] at h
  have key : ∃ r : Result Next, (∃ v, r = .ok (.value v) w ∧ ∀ w, (execOp a.eval o).run P w = .ok (.value v) w) ∨ (r = .halt (.stuck "") w ∧ ∀ K' : Act → World → Prop, ¬ o.wp P a w K' Q) := by
    cases e : o.op <;> simp only [e] at h <;> first | (cases h; done) | skip
    case move x => exact ⟨_, .inl ⟨_, rfl, fun w => BigFrame.run_move x e w⟩⟩
    case assign x => exact ⟨_, .inl ⟨_, rfl, fun w => BigFrame.run_assign x e w⟩⟩
    case extract x k =>
      have hrun : ∀ w, (execOp a.eval o).run P w = ((Instr.extract (a.eval x) k).run P w).andThen fun v w => .ok (.value v) w := fun w => by unfold execOp; simp only [e, Sem.run_bind, Sem.run_pure]
      cases hv : a.eval x with
      | tuple vs =>
        cases hk : vs[k]? with
        | some v => exact ⟨_, .inl ⟨v, rfl, fun w => by rw [hrun, hv]; simp [Instr.extract, hk]⟩⟩
        | none =>
          refine ⟨_, .inr ⟨rfl, fun K' hw => ?_⟩⟩
          unfold Oper.wp at hw
          rw [hrun, hv] at hw
          simp [Instr.extract, hk, Oper.upon] at hw
      | _ =>
        refine ⟨_, .inr ⟨rfl, fun K' hw => ?_⟩⟩
        unfold Oper.wp at hw
        rw [hrun, hv] at hw
        simp [Instr.extract, Oper.upon] at hw
  have hevt : ((execOp a.eval o).runT P w #[]).2 = #[] := by
    cases e : o.op <;> simp only [e] at h <;> first | (cases h; done) | skip
    case move x => unfold execOp; rw [e]; rfl
    case assign x => unfold execOp; rw [e]; rfl
    case extract x k =>
      unfold execOp
      rw [e]
      simp only [Instr.extract]
      split
      · split <;> rfl
      · rfl
  unfold wpOp at hw
  simp only [ho] at hw
  split at hw
  · next hwant =>
    rcases hw with hw | ⟨hasks, _⟩
    · obtain ⟨_, ⟨v, _, hrun⟩ | ⟨_, hno⟩⟩ := key
      · unfold Oper.wp at hw
        rw [hrun w] at hw
        exact ⟨_, .inl ⟨hwant, hrun⟩, hw⟩
      · exact absurd hw (hno _)
    · unfold Oper.asks at hasks
      rw [hevt] at hasks
      simp at hasks
  · next hwant => exact ⟨_, .inr ⟨by simpa using hwant, rfl⟩, hw⟩
theorem wpAny_of_tail (hs : Region.noSelect ops = true) (hQ : ∀ c a d v w, Q (.panic c) (a.put d v) w → Q (.panic c) a w) : ∀ (l : List Nat) (listed : Array Bool) (a : Act) (w : World), (∀ j ∈ l, j < ops.size) →
    tailL md ops l listed = true → wpList P ops Q (opsAt ops l) a w → wpAny P md ops Q l.length listed a w
  | [], _, _, _, _, hB, h => ⟨by simpa [tailL] using hB, h⟩
  | k :: l, listed, a, w, hlt, hB, h => by
    obtain ⟨ok, hok⟩ : ∃ ok, ops[k]? = some ok := ⟨ops[k]'(hlt k (List.mem_cons_self ..)), Array.getElem?_eq_getElem _⟩
    rw [opsAt_cons hok] at h
    have hw : wpOp P ops Q k (wpList P ops Q (opsAt ops l)) a w := by unfold wpOp; simp only [hok]; exact h
    have hlt' : ∀ j ∈ l, j < ops.size := fun j hj => hlt j (List.mem_cons_of_mem _ hj)
    simp only [tailL, Bool.or_eq_true, Bool.and_eq_true, decide_eq_true_eq] at hB
    rcases hB with ⟨hr, hB'⟩ | ⟨⟨⟨hr, hf⟩, hh⟩, hB'⟩
    · refine ⟨fun h1 => (by rw [hr] at h1; cases h1), fun i hi => ?_⟩
      rw [hr] at hi
      have hik : i = k := by simpa using hi
      subst hik
      exact wpOp_mono (fun a' w' h' => wpAny_of_tail hs hQ l _ a' w' hlt' hB' h') hw
    · obtain ⟨v, hy, hK⟩ := hands_on hok hh hw
      exact wpAny_take hok hs hf hr (fun c a w => hQ c a _ _ w) hy (wpAny_of_tail hs hQ l _ _ _ hlt' hB' hK)

/-- What is taken first: each yields its value in whatever world. -/
def wpYields (P : Program) (ops : Array Oper) (L : Act → Prop) : List Oper → Act → Prop
  | [], a => L a
  | o :: r, a => ∃ v, Yields P ops o v a ∧ wpYields P ops L r (a.put o.dst v)
theorem wpYields_nil {L : Act → Prop} {a : Act} (h : L a) : wpYields P ops L [] a := h
theorem wpYields_step {L : Act → Prop} {a : Act} {o : Oper} {r : List Oper} {v : Value} (hw : Region.wanted o (yielded ops a.tmps) = true) (hr : ∀ w, (execOp a.eval o).run P w = .ok (.value v) w) (h : wpYields P ops L r (a.put o.dst v)) : wpYields P ops L (o :: r) a :=
  ⟨v, .inl ⟨hw, hr⟩, h⟩
theorem wpAny_of_float {s : Nat} {r hd : List Nat} (hs : Region.noSelect ops = true) (hQ : ∀ c a d v w, Q (.panic c) (a.put d v) w → Q (.panic c) a w) (h1 : sinkL md ops s hd = true) (h2 : chainL md ops [s] r = true) (hdis : ∀ j ∈ hd, j ∉ s :: r)
    (hhd : ∀ j ∈ hd, j < ops.size) (htl : ∀ j ∈ s :: r, j < ops.size) : ∀ (l : List Nat) (listed : Array Bool) (a : Act) (w : World), (∀ j ∈ l, j < ops.size) → listed.size = ops.size →
    (∀ j oj, ops[j]? = some oj → listed.getD j false = true → ∀ e ∈ oj.after, Region.binds md e = true → listed.getD e.on false = true) → floatL md ops hd (s :: r) l listed = true → C w →
    wpYields P ops (fun a1 => wpQuiet P ops C (fun a2 => ∀ w', C w' → wpList P ops Q (opsAt ops (s :: r)) a2 w') (opsAt ops hd) a1) (opsAt ops l) a → wpAny P md ops Q (l.length + (hd.length + (s :: r).length)) listed a w
  | [], listed, a, w, _, hsz, hcl, hB, hC, h => by
    simp only [floatL, Bool.and_eq_true] at hB
    obtain ⟨⟨hc, ht⟩, hB'⟩ := hB
    have inv : HInv md ops (s :: r) listed := ⟨hsz, hcl, fun t ht' => by
      have := List.all_eq_true.1 ht t ht'
      simpa using this⟩
    have cov : covers ops hd (s :: r) listed := fun i hi => by
      have := List.all_eq_true.1 hc i (List.mem_range.2 hi)
      simp only [Bool.or_eq_true] at this
      rcases this with (h | h) | h
      · exact .inl h
      · exact .inr (.inl (by simpa using h))
      · exact .inr (.inr (by simpa using h))
    have H := wpAnyLQ_lex (P := P) (C := C) hs h1 h2 hdis hd listed a (fun j hj => hj) hhd inv cov hB' h
    rw [List.length_nil, Nat.zero_add]
    exact wpAny_of_headQ (fun listed' a' w' hw' hL => wpAny_of_tail hs hQ (s :: r) listed' a' w' htl (by have := hL.1; simp only [Bool.and_eq_true] at this; exact this.2) (hL.2 w' hw')) _ _ _ _ hC H
  | k :: l, listed, a, w, hlt, hsz, hcl, hB, hC, h => by
    obtain ⟨ok, hok⟩ : ∃ ok, ops[k]? = some ok := ⟨ops[k]'(hlt k (List.mem_cons_self ..)), Array.getElem?_eq_getElem _⟩
    simp only [floatL, Bool.and_eq_true] at hB
    obtain ⟨⟨hr, hf⟩, hB'⟩ := hB
    rw [opsAt_cons hok] at h
    obtain ⟨v, hy, hK⟩ := h
    have hr' : k ∈ Region.ready md ops listed := by simpa using hr
    have hcl' := (HInv.set (tl := []) ⟨hsz, hcl, fun t ht => by cases ht⟩ hr' (fun h => by cases h)).closed
    rw [show (k :: l).length + (hd.length + (s :: r).length) = (l.length + (hd.length + (s :: r).length)) + 1 by simp only [List.length_cons]; omega]
    exact wpAny_take hok hs hf hr (fun c a w => hQ c a _ _ w) hy (wpAny_of_float hs hQ h1 h2 hdis hhd htl l _ _ _ (fun j hj => hlt j (List.mem_cons_of_mem _ hj)) (by simpa using hsz) hcl' hB' hC hK)
/-- THE LAW: a region that draws its order, walked in the order fl, hd, tl. -/
theorem wp_region_ord (fl hd : List Nat) (s : Nat) (r : List Nat) (C : World → Prop) {id : Nat} {a : Act} {w : World} {l : List Oper} (hm : P.follows .mixedOrders = true) (hB : ordB .any l.toArray fl hd (s :: r) = true) (hn : fl.length + (hd.length + (s :: r).length) = l.length) (hC : C w.drew)
    (hQ : ∀ c a d v w, Q (.panic c) (a.put d v) w → Q (.panic c) a w)
    (h : wpYields P l.toArray (fun a1 => wpQuiet P l.toArray C (fun a2 => ∀ w', C w' → wpList P l.toArray Q (opsAt l.toArray (s :: r)) a2 w') (opsAt l.toArray hd) a1) (opsAt l.toArray fl) a) : (Code.region id l.toArray true).wp P Q a w := by
  simp only [ordB, Bool.and_eq_true] at hB
  obtain ⟨⟨⟨⟨⟨⟨hs, h1, h2⟩, hdis⟩, hfl⟩, hhd⟩, htl⟩, hF⟩ := hB
  have lt : ∀ {l' : List Nat}, opsIn l.toArray l' = true → ∀ j ∈ l', j < l.toArray.size := fun h j hj => by
    have := List.all_eq_true.1 h j hj
    simpa using this
  refine wp_region_any hm ?_
  have H := wpAny_of_float (P := P) (md := .any) (C := C) hs hQ h1 h2 (fun j hj hj2 => by
      have := List.all_eq_true.1 hdis j hj
      rw [List.contains_iff_mem.2 hj2] at this
      cases this) (lt hhd) (lt htl) fl (Array.replicate l.toArray.size false) a { w with drawn := w.drawn + 1 } (lt hfl) (by simp) (fun j oj _ hl => by rw [getD_replicate_false] at hl; cases hl) hF hC h
  rw [hn] at H
  simpa using H
end
section
variable {P : Program} {ops : Array Oper} {C : World → Prop} {o : Oper} {a : Act} {K : Act → Prop}
/-- A row of cells, loaded out of the middle of a block, in a class of worlds in which it stands. -/
theorem quiet_mid (hw : Region.wanted o (yielded ops a.tmps) = true) (ty : TypeId) (x : Operand) (ho : o.op = .load ty x) (b f : Nat) (hx : a.eval x = .pointer (some ⟨b, f, none⟩)) (cs : List Value) (d : TypeDesc) (hC : ∀ W, C W → W.rangeAt b f cs)
    (hu : P.underlying ty = some d) (hd : d.isRow = true) (hi : (P.info? ty).map (·.size) = some cs.length) (k : K (a.put o.dst (.agg cs.toArray))) : if Region.wanted o (yielded ops a.tmps) then o.quiet P a C K else K (a.put o.dst undef) := by
  rw [if_pos hw]
  refine ⟨_, fun W hW => ?_, k⟩
  unfold Oper.quietAt execOp
  simp only [ho, hx, Instr.loadAt, Instr.sureAddr, Sem.run_bind, Sem.run_pure, Result.andThen_ok, run_loadVar_mid W b f ty cs d (hC W hW) hu hd hi]
  exact ⟨rfl, rfl⟩
end
end Go.Proofs.YthoiikkjjaldnaaGreatDoor

/- Package coder's Erase. -/
namespace Go.Proofs.YthoiikkjjaldnaaGreatDoor
set_option linter.unusedVariables false
set_option linter.unusedSimpArgs false
set_option maxRecDepth 100000
open Go.RowKit

def msK (a : List Int) (m : Mm) : Nat → Mm
  | 0 => m
  | k + 1 => stM a (msK a m k) k
def ysK (a : List Int) (m : Mm) : Nat → List Int
  | 0 => []
  | k + 1 => ysK a m k ++ stY a (msK a m k) k
theorem msK_ok {a : List Int} {m : Mm} (k : m.ok) (n : Nat) : (msK a m n).ok := by
  induction n with
  | zero => exact k
  | succ n ih => exact stM_ok ih _ _
theorem msK_64 {a : List Int} {m : Mm} (h : W64 m.nums) (n : Nat) : W64 (msK a m n).nums := by
  induction n with
  | zero => exact h
  | succ n ih => exact stM_64 ih _ _
theorem ysK_len (a : List Int) (m : Mm) (n : Nat) : (ysK a m n).length ≤ 40 * n := by
  induction n with
  | zero => exact Nat.le_refl _
  | succ n ih =>
    have := stY_len a (msK a m n) n
    rw [ysK, List.length_append]
    omega
/-- The boxes, and the predictor's. -/
structure Ec (w wr : World) (m : Mm) (g : Nat) (a : List Int) : Prop where
  M : Ms w wr m
  F : IB wr g 90 a
  lt : w.heap.size + 2 ≤ g
section
variable {w wr w' : World} {m mm : Mm} {g : Nat} {a : List Int}
theorem Ec.below (s : Ec w wr m g a) (hb : Below wr.heap.size wr w') : Ec w w' m g a := ⟨s.M.below hb, Blk.below' s.F hb, s.lt⟩
theorem Ec.setA (s : Ec w wr m g a) : Ec w (wr.setRow w.heap.size mm.ag) mm g a := ⟨s.M.setA, Blk.rowFar s.F (by have := s.lt; omega), s.lt⟩
theorem Ec.alloc (s : Ec w wr m g a) (o : Obj) : Ec w (wr.alloc o) m g a := s.below ((Below.refl _ _).alloc (Nat.le_refl _) o)
theorem Ec.grown {A : Option Addr} {c : Nat} {xs : List Int} (s : Ec w wr m g a) (hO : Own wr (g + 1) A c xs) (hG : wr.grownBy w' (A.map (·.block))) : Ec w w' m g a := by
  have h1 := s.lt
  have h2 : g < wr.heap.size := Blk.lt s.F
  exact ⟨⟨Blk.grownA s.M.A hG (hO.ne_ (by omega)), Blk.grownA s.M.R hG (hO.ne_ (by omega)), below_grown s.M.bel (hO.more (base' := w.heap.size) (by omega)) hG (by omega)⟩, Blk.grownA s.F hG (hO.ne_ (by omega)), s.lt⟩
theorem Ec.glt (s : Ec w wr m g a) : g < wr.heap.size := Blk.lt s.F
end

set_option maxHeartbeats 4000000 in
theorem erase_any (m : Mm) (k : m.ok) (w : World) : Calls Tryz.prog 59 #[.agg m.ag] w (NewM w (coM m) (coY m) (errOf (goodM m))) := by
  have hR := results_mem3 (fn := Tryz.f59) (p := 2) (q := 3) (r := 4) rfl
  have S0 := hid (Ms.start w m)
  have K := hid k
  have KG := hid (fun W => good_any m k W)
  have KD := hid (fun W => show Calls Tryz.prog 89 #[.agg (ints m.r).toArray] W (Dirs W m.r) from direct_any m.r W k.r)
  have KX := hid (fun W => expand_any (dirL m.r) 32440 W (dirL_len _))
  have FR := hid (show coM m = if goodM m then msK (eraA m) m 2 else zeroM from rfl)
  have FY := hid (show coY m = if goodM m then ysK (eraA m) m 2 else [] from by unfold coY ysK ysK ysK; rfl)
  have hi8 : (Tryz.prog.info? 22).map (·.size) = some (ints m.r).length := by rw [ints_len, k.r]; exact size8'
  have HI8 := hid hi8
  have DL := hid (dirL_len m.r)
  have EL := hid (show (eraA m).length = 9 from exL_len _ _)
  clear k hi8
  go_enter Tryz.func59, Tryz.ntmps59
  go_wp2_with (refine wpList_loadM rfl (.tmp 1) rfl _ m rfl S0.out.A K.out ?_)
  refine (KG.out _).mono ?_
  rintro e w1 ⟨rfl, hB⟩
  have S1 := hid (S0.out.below hB)
  clear hB S0 KG
  cases hg : goodM m with
  | false =>
    have HG := hid hg
    clear hg
    have hRow := hid (MB.setRow S1.out.R zeroM)
    have FIN := hid (below_setRow S1.out.bel (g := w.heap.size + 1) (by omega) zeroM.ag)
    go_wp2_with (refine wpList_storeM rfl (.tmp 2) (.tmp 14) rfl _ zeroM zeroM rfl (congrArg Value.agg zeroM_ag) S1.out.R zeroM_ok zeroM_ok ?_)
    refine bodyPost_ret (v := _) (hR _ _ _ zeroM rfl hRow.out zeroM_ok) rfl ?_
    rw [FR.out, FY.out, HG.out]
    exact ⟨none, 0, rfl, Own.nil, FIN.out⟩
  | true =>
    have HG := hid hg
    clear hg
    go_wp2_with (refine wpList_load_mid rfl 22 (.tmp 16) rfl _ _ rfl (ints m.r) _ (S1.out.A.R K.out) Tryz.underlying22 rfl HI8.out ?_)
    refine (KD.out _).mono ?_
    rintro e w2 ⟨rfl, hB⟩
    have S2 := hid (S1.out.below hB)
    clear hB S1 KD
    obtain ⟨d, hd⟩ : ∃ d, d = dirL m.r := ⟨_, rfl⟩
    obtain ⟨a, ha⟩ : ∃ a, a = eraA m := ⟨_, rfl⟩
    have hx : exL d 32440 = a := by rw [ha, hd]; rfl
    have KX2 : ∀ W, Calls Tryz.prog 138 #[.agg (agi d), .int .i64 32440] W (fun e w' => e = .returned (.tuple #[.agg (agi a), .int .i64 (errOf (exB d 32440))]) ∧ Below W.heap.size W w') := fun W => by
      have := KX.out W
      unfold Exps at this
      rw [← hd, hx] at this
      exact this
    have KX2 := hid KX2
    clear KX
    rename_i KXr
    clear KXr
    rw [← hd] at DL ⊢
    rw [← ha] at FR FY EL
    clear hd ha hx
    go_wp2_with (first
      | (refine wpList_storeI rfl 90 (.tmp 5) (.tmp 19) rfl _ 90 Z9 d 9 rfl rfl (IB.new w2 90 Z9) size9 rfl DL.out ?_
         have B3 := below_stored w2 (.cells (agi Z9) 90) (agi d)
         obtain ⟨w3, hw3⟩ : ∃ w3, w3 = (w2.alloc (.cells (agi Z9) 90)).setRow w2.heap.size (agi d) := ⟨_, rfl⟩
         have S3 := hid (show Ms w w3 m by rw [hw3]; exact S2.out.below B3)
         have F3 := hid (show IB w3 w2.heap.size 90 d by rw [hw3]; exact IB.stored w2 90 Z9 d)
         rw [z9_eq] at hw3
         rw [← hw3]
         clear hw3 B3)
      | (refine wpList_loadI rfl 90 (.tmp 5) rfl _ 90 d 9 _ rfl F3.out Tryz.underlying90 rfl size9 DL.out ?_))
    refine (KX2.out _).mono ?_
    rintro e w4 ⟨rfl, hB⟩
    have S4 := hid (S3.out.below hB)
    have F4 := hid (Blk.below' F3.out hB)
    have GL := hid S2.out.lt
    obtain ⟨g5, hg5⟩ : ∃ g5, g5 = w2.heap.size := ⟨_, rfl⟩
    rw [← hg5] at F4 GL ⊢
    clear hB S2 S3 F3 hg5 KX2
    have E5 := hid (show Ec w (w4.setRow g5 (agi a)) m g5 a from ⟨⟨Blk.rowFar S4.out.A (by have := GL.out; omega), Blk.rowFar S4.out.R (by have := GL.out; omega), below_setRow S4.out.bel (by have := GL.out; omega) _⟩, IB.setRow F4.out a, GL.out⟩)
    go_wp2_with (refine wpList_storeI rfl 90 (.tmp 5) (.tmp 24) rfl _ 90 d a 9 rfl rfl F4.out size9 DL.out EL.out ?_)
    generalize w4.setRow g5 (agi a) = w5 at E5 ⊢
    clear S4 F4
    go_loopw [7, 26] (fun ov iv wr => ∃ (k : Nat) (A : Option Addr) (c n : Nat), k ≤ 2 ∧ iv = .int .i64 k ∧ ov = .slice A n c ∧ Hid ((ysK a m k).length = n) ∧ Hid (Own wr (g5 + 1) A c (ysK a m k)) ∧ Hid (Ec w wr (msK a m k) g5 a)) (fun _ iv _ => 2 - (intOf iv).toNat)
    case atStart => exact ⟨0, none, 0, 0, by omega, rfl, rfl, hid rfl, hid Own.nil, E5⟩
    case round =>
      clear E5
      obtain ⟨k, A, c, n, hk, rfl, rfl, HN, HO, HC⟩ := hrel
      by_cases hlt : k < 2
      · have KO := hid (msK_ok (a := a) K.out k)
        have KE := hid (fun W => erased_any (msK a m k) KO.out k W)
        have K1 := hid (eraR_ok KO.out (k : Int))
        have KP := hid (fun W A c (h : Rs W W.heap.size A (eraY (msK a m k) k)) => show Calls Tryz.prog 68 #[.agg (eraR (msK a m k) k).ag, .agg (agi a), .slice A (eraY (msK a m k) k).length c] W (PlayA W (stM a (msK a m k) k) (stY a (msK a m k) k)) from play_any (eraR (msK a m k) k) K1.out a _ A c _ W EL.out h rfl (eraY_len _ _))
        have K2 := hid (stM_ok KO.out a k)
        have YL := hid (stY_len a (msK a m k) k)
        have NM := hid (show msK a m (k + 1) = stM a (msK a m k) k from rfl)
        have NY := hid (show ysK a m (k + 1) = ysK a m k ++ stY a (msK a m k) k from rfl)
        have YN := hid (ysK_len a m k)
        generalize stM a (msK a m k) k = m2 at *
        generalize stY a (msK a m k) k = y at *
        generalize eraR (msK a m k) k = m1 at *
        generalize eraY (msK a m k) k = x at *
        generalize errOf (eraB (msK a m k) k) = er at *
        generalize msK a m k = mk at *
        generalize ysK a m k = ys at *
        go_wp2_with (refine wpList_loadM rfl (.tmp 1) rfl _ mk rfl HC.out.M.A KO.out ?_)
        refine (KE.out _).mono ?_
        rintro e w6 ⟨A6, c6, rfl, hO, hB⟩
        have C6 := hid (HC.out.below hB)
        have O6 := hid (HO.out.below hB)
        have SZ6 := hid hB.size
        have X6 := hid hO
        have GT := hid HC.out.glt
        clear hO hB HC HO KE
        have C7 := hid (C6.out.setA (mm := m1))
        have O7 := hid (O6.out.setRow (g := w.heap.size) (by have := C6.out.lt; omega) m1.ag)
        have X7 := hid (X6.out.setRow (g := w.heap.size) (by have := C6.out.lt; have := GT.out; omega) m1.ag).reads
        obtain ⟨w7, hw7⟩ : ∃ w7, w7 = w6.setRow w.heap.size m1.ag := ⟨_, rfl⟩
        rw [← hw7] at C7 O7 X7
        have HW7 := hid hw7
        clear hw7
        go_wp2_with (first
          | (refine wpList_storeM rfl (.tmp 1) (.tmp 33) rfl _ mk m1 rfl rfl C6.out.M.A KO.out K1.out ?_; rw [← HW7.out])
          | (refine wpList_loadM rfl (.tmp 1) rfl _ m1 rfl C7.out.M.A K1.out ?_)
          | (refine wpList_loadI rfl 90 (.tmp 5) rfl _ 90 a 9 _ rfl C7.out.F Tryz.underlying90 rfl size9 EL.out ?_))
        refine (KP.out _ _ _ X7.out).mono ?_
        rintro e w8 ⟨A8, c8, rfl, hO, hB⟩
        have C8 := hid (C7.out.below hB)
        have O8 := hid (O7.out.below hB)
        have GT8 := hid C7.out.glt
        have X8 := hid hO
        clear hO hB C6 C7 O6 O7 X6 X7 KP HW7
        have C9 := hid (C8.out.setA (mm := m2))
        have O9 := hid (O8.out.setRow (g := w.heap.size) (by have := C8.out.lt; omega) m2.ag)
        have X9 := hid (X8.out.setRow (g := w.heap.size) (by have := C8.out.lt; have := GT8.out; omega) m2.ag).reads
        obtain ⟨w9, hw9⟩ : ∃ w9, w9 = w8.setRow w.heap.size m2.ag := ⟨_, rfl⟩
        rw [← hw9] at C9 O9 X9
        have HW9 := hid hw9
        clear hw9
        have GT9 := hid C9.out.glt
        go_wp2_with (first
          | (refine wpList_storeM rfl (.tmp 1) (.tmp 41) rfl _ m1 m2 rfl rfl C8.out.M.A K1.out K2.out ?_; rw [← HW9.out])
          | (at_builtin; refine wpList_catN rfl (.tmp 43) (.tmp 44) rfl (g5 + 1) A c n ys rfl HN.out O9.out w9.heap.size A8 c8 y.length y rfl rfl X9.out (by have := YL.out; have := YN.out; have := HN.out; omega) (by have := GT9.out; omega) ?_; intro A10 c10 w10 hO hG hA; have C10 := hid (C9.out.grown O9.out hG); have O10 := hid hO; clear hO hG hA))
        go_roundw
        case rel => exact ⟨k + 1, A10, c10, n + y.length, by omega, by go_num, rfl, hid (by rw [NY.out, List.length_append, HN.out]), hid (by rw [NY.out]; exact O10.out), hid (by rw [NM.out]; exact C10.out)⟩
        case measure => simp [intOf] <;> omega
      · obtain rfl : k = 2 := by omega
        have OKS := hid (msK_ok (a := a) K.out 2)
        have hRow := hid (MB.setRow HC.out.M.R (msK a m 2))
        have FIN := hid (below_setRow HC.out.M.bel (g := w.heap.size + 1) (by omega) (msK a m 2).ag)
        have OF := hid ((HO.out.setRow (g := w.heap.size + 1) (by have := HC.out.lt; omega) (msK a m 2).ag).more (base' := w.heap.size) (by have := HC.out.lt; omega))
        generalize msK a m 2 = mf at *
        generalize ysK a m 2 = yf at *
        go_wp2_with (first
          | (refine wpList_loadM rfl (.tmp 1) rfl _ mf rfl HC.out.M.A OKS.out ?_)
          | (refine wpList_storeM rfl (.tmp 2) (.tmp 47) rfl _ zeroM mf rfl rfl HC.out.M.R zeroM_ok OKS.out ?_))
        refine bodyPost_ret (v := _) (hR _ _ _ mf rfl hRow.out OKS.out) rfl ?_
        rw [FR.out, FY.out, HG.out]
        exact ⟨A, c, by rw [if_pos rfl, if_pos rfl, HN.out]; rfl, by rw [if_pos rfl]; exact OF.out, FIN.out⟩
end Go.Proofs.YthoiikkjjaldnaaGreatDoor
