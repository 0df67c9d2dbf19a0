/- The walks of both Paritys of a packet. -/
import Derived.Test.YtnbenmpjpogldaaDoorRow
import Derived.Test.YtnbenmpjpogldaaDoorBits
import Derived.Test.YtnbenmpjpogldaaDoorBigRd
namespace Go.Proofs.YtnbenmpjpogldaaDoor
set_option linter.unusedVariables false
set_option linter.unusedSimpArgs false
set_option maxRecDepth 100000
open Go.RowKit

/-- How many of the first k bits are set. -/
def bitS (X : Nat) : Nat → Nat
  | 0 => 0
  | k + 1 => bitS X k + X / 2 ^ k % 2
theorem bitS_end (X : Nat) {j m : Nat} (h : X / 2 ^ j = 0) (hm : j ≤ m) : bitS X m = bitS X j := by
  induction m with
  | zero => obtain rfl : j = 0 := by omega
            rfl
  | succ m ih =>
    by_cases e : j = m + 1
    · rw [e]
    · have h1 := ih (by omega)
      have h2 : X / 2 ^ m = 0 := by
        obtain ⟨d, rfl⟩ : ∃ d, m = j + d := ⟨m - j, by omega⟩
        rw [Nat.pow_add, ← Nat.div_div_eq_div_mul, h, Nat.zero_div]
      simp only [bitS]
      rw [h1, h2, Nat.zero_mod, Nat.add_zero]
theorem bitS_le (X k : Nat) : bitS X k ≤ k := by
  induction k with
  | zero => exact Nat.le_refl _
  | succ k ih => simp only [bitS]; omega
theorem half_pow (X j : Nat) : X / 2 ^ j / 2 = X / 2 ^ (j + 1) := by rw [Nat.div_div_eq_div_mul, Nat.pow_succ]
/-- How many bits of a number above 0 are set. -/
def parB (x : Int) : Nat := bitS x.toNat 63
theorem top63 {x : Int} (h : x ≤ 9223372036854775807) : x.toNat / 2 ^ 63 = 0 := Nat.div_eq_of_lt (by omega)
/-- The parity of a packet's kind and lags. -/
def pkPar (ps : List Int) : Int := ((parB (ps.getD 0 0) + parB (ps.getD 9 0) + parB (ps.getD 17 0)) % 2 : Nat)
/-- The sum of the first k of the three. -/
def parS (a b c : Int) (k : Nat) : Nat := (if 0 < k then parB a else 0) + (if 1 < k then parB b else 0) + (if 2 < k then parB c else 0)
theorem parB_le (x : Int) : parB x ≤ 63 := bitS_le _ _
theorem xor_bits (a b : Nat) : bits BinOp.xor IntKind.i64 ((a : Int) % 2) ((b : Int) % 2) = ((a + b : Nat) : Int) % 2 := by
  have ha : (a : Int) % 2 = 0 ∨ (a : Int) % 2 = 1 := by omega
  have hb : (b : Int) % 2 = 0 ∨ (b : Int) % 2 = 1 := by omega
  have e : ((a + b : Nat) : Int) % 2 = ((a : Int) % 2 + (b : Int) % 2) % 2 := by omega
  rw [e]
  rcases ha with h | h <;> rcases hb with h2 | h2 <;> rw [h, h2] <;> rfl

set_option maxHeartbeats 4000000 in
theorem packParity_any (ps : List Int) (w : World) (hl : ps.length = 25) (hw : W64 ps) :
    Calls Tryd.prog 8 #[.agg (agi ps)] w fun e w' => e = .returned (.int .i64 (pkPar ps)) ∧ Below w.heap.size w w' := by
  have P0 := IB.new w 28 ps
  have B0 := hid ((Below.refl w.heap.size w).alloc (Nat.le_refl _) (.cells (agi ps) 28))
  have c0 := IB.cell P0 0 (by omega)
  have c1 := IB.cell P0 9 (by omega)
  have c2 := IB.cell P0 17 (by omega)
  have HA := hw.at_ 0
  have HB := hw.at_ 9
  have HC := hw.at_ 17
  have HP := hid (show pkPar ps = ((parB (ps.getD 0 0) + parB (ps.getD 9 0) + parB (ps.getD 17 0)) % 2 : Nat) from rfl)
  obtain ⟨a, ha⟩ : ∃ a, a = ps.getD 0 0 := ⟨_, rfl⟩
  obtain ⟨b, hb⟩ : ∃ b, b = ps.getD 9 0 := ⟨_, rfl⟩
  obtain ⟨c, hc⟩ : ∃ c, c = ps.getD 17 0 := ⟨_, rfl⟩
  rw [← ha] at c0 HA HP
  rw [← hb] at c1 HB HP
  rw [← hc] at c2 HC HP
  obtain ⟨V, hV⟩ : ∃ V, V = w.alloc (.cells (agi ps) 28) := ⟨_, rfl⟩
  rw [← hV] at c0 c1 c2 B0
  have HV := hid hV
  have HA := hid HA
  have HB := hid HB
  have HC := hid HC
  clear ha hb hc hV hw hl P0
  go_enter Tryd.func8, Tryd.ntmps8
  go_wp2_with (rw [← HV.out]; clear HV)
  go_loop [3, 17] (fun nv iv => ∃ k : Nat, k ≤ 3 ∧ iv = .int .i64 k ∧ nv = .int .i64 ((parS a b c k : Nat) % 2 : Int)) (fun _ iv => 3 - (intOf iv).toNat)
  case atStart => exact ⟨0, by omega, rfl, rfl⟩
  case round =>
    obtain ⟨k, hk, rfl, rfl⟩ := hrel
    by_cases hlt : k < 3
    · obtain rfl | rfl | rfl : k = 0 ∨ k = 1 ∨ k = 2 := by omega
      · have HS := hid (show parS a b c (0 + 1) = parS a b c 0 + parB a from by simp [parS])
        have hix : ∀ w', (Instr.index 47 (.agg #[.int .i64 a, .int .i64 b, .int .i64 c]) (.int .i64 0)).run Tryd.prog w' = .ok (.int .i64 a) w' := fun _ => by kernel_rfl
        obtain ⟨n0, hn0⟩ : ∃ n0, n0 = parS a b c 0 := ⟨_, rfl⟩
        rw [← hn0] at HS ⊢
        clear hn0
        try rw [show ((0 : Nat) : Int) = 0 from rfl]
        have hdec : decide ((0 : Int) < 3) = true := rfl
        go_wp2
        go_loop [3, 5] (fun nv xv => ∃ (j N : Nat) (y : Int), j ≤ 63 ∧ y ≤ 9223372036854775807 ∧ xv = .int .i64 y ∧ nv = .int .i64 ((N : Int) % 2) ∧ Hid (N = n0 + bitS a.toNat j) ∧ Hid (y.toNat = a.toNat / 2 ^ j)) (fun _ xv => (intOf xv).toNat)
        case atStart => exact ⟨0, n0, a, by omega, HA.out.2, rfl, rfl, hid rfl, hid (by simp)⟩
        case round =>
          obtain ⟨j, N, y, hj, hy, rfl, rfl, HN, HY⟩ := hrel
          by_cases hpos : 0 < y
          · have hj63 : j < 63 := by
              refine Classical.byContradiction fun hc => ?_
              obtain rfl : j = 63 := by omega
              have := HY.out
              rw [top63 HA.out.2] at this
              omega
            have ha := and1 y
            have hx := xor_bits N y.toNat
            rw [show ((y.toNat : Nat) : Int) % 2 = y % 2 by omega] at hx
            obtain ⟨M, hM⟩ : ∃ M, M = N + y.toNat := ⟨_, rfl⟩
            rw [← hM] at hx
            have HE := hid (show bitS a.toNat (j + 1) = bitS a.toNat j + a.toNat / 2 ^ j % 2 from rfl)
            have HH := hid (half_pow a.toNat j)
            have HM := hid hM
            clear hM
            go_wp2
            refine ⟨⟨j + 1, bitS a.toNat (j + 1) + n0, y / 2, by omega, by omega, rfl, ?_, hid (Nat.add_comm _ _), hid ?_⟩, ?_⟩
            · congr 1; have h1 := HM.out; have h2 := HE.out; have h3 := HN.out; have h4 := HY.out; omega
            · rw [← HH.out, ← HY.out]; omega
            · simp [intOf] <;> omega
          · have hz : a.toNat / 2 ^ j = 0 := by have := HY.out; omega
            have HE := hid (show N = parS a b c (0 + 1) from by rw [HN.out, HS.out]; unfold parB; rw [bitS_end _ hz hj])
            clear hz
            go_wp2
            refine ⟨⟨0 + 1, by omega, rfl, by rw [HE.out]⟩, ?_⟩
            simp [intOf]
      · have HS := hid (show parS a b c (1 + 1) = parS a b c 1 + parB b from by simp [parS])
        have hix : ∀ w', (Instr.index 47 (.agg #[.int .i64 a, .int .i64 b, .int .i64 c]) (.int .i64 1)).run Tryd.prog w' = .ok (.int .i64 b) w' := fun _ => by kernel_rfl
        obtain ⟨n0, hn0⟩ : ∃ n0, n0 = parS a b c 1 := ⟨_, rfl⟩
        rw [← hn0] at HS ⊢
        clear hn0
        try rw [show ((1 : Nat) : Int) = 1 from rfl]
        have hdec : decide ((1 : Int) < 3) = true := rfl
        go_wp2
        go_loop [3, 5] (fun nv xv => ∃ (j N : Nat) (y : Int), j ≤ 63 ∧ y ≤ 9223372036854775807 ∧ xv = .int .i64 y ∧ nv = .int .i64 ((N : Int) % 2) ∧ Hid (N = n0 + bitS b.toNat j) ∧ Hid (y.toNat = b.toNat / 2 ^ j)) (fun _ xv => (intOf xv).toNat)
        case atStart => exact ⟨0, n0, b, by omega, HB.out.2, rfl, rfl, hid rfl, hid (by simp)⟩
        case round =>
          obtain ⟨j, N, y, hj, hy, rfl, rfl, HN, HY⟩ := hrel
          by_cases hpos : 0 < y
          · have hj63 : j < 63 := by
              refine Classical.byContradiction fun hc => ?_
              obtain rfl : j = 63 := by omega
              have := HY.out
              rw [top63 HB.out.2] at this
              omega
            have ha := and1 y
            have hx := xor_bits N y.toNat
            rw [show ((y.toNat : Nat) : Int) % 2 = y % 2 by omega] at hx
            obtain ⟨M, hM⟩ : ∃ M, M = N + y.toNat := ⟨_, rfl⟩
            rw [← hM] at hx
            have HE := hid (show bitS b.toNat (j + 1) = bitS b.toNat j + b.toNat / 2 ^ j % 2 from rfl)
            have HH := hid (half_pow b.toNat j)
            have HM := hid hM
            clear hM
            go_wp2
            refine ⟨⟨j + 1, bitS b.toNat (j + 1) + n0, y / 2, by omega, by omega, rfl, ?_, hid (Nat.add_comm _ _), hid ?_⟩, ?_⟩
            · congr 1; have h1 := HM.out; have h2 := HE.out; have h3 := HN.out; have h4 := HY.out; omega
            · rw [← HH.out, ← HY.out]; omega
            · simp [intOf] <;> omega
          · have hz : b.toNat / 2 ^ j = 0 := by have := HY.out; omega
            have HE := hid (show N = parS a b c (1 + 1) from by rw [HN.out, HS.out]; unfold parB; rw [bitS_end _ hz hj])
            clear hz
            go_wp2
            refine ⟨⟨1 + 1, by omega, rfl, by rw [HE.out]⟩, ?_⟩
            simp [intOf]
      · have HS := hid (show parS a b c (2 + 1) = parS a b c 2 + parB c from by simp [parS])
        have hix : ∀ w', (Instr.index 47 (.agg #[.int .i64 a, .int .i64 b, .int .i64 c]) (.int .i64 2)).run Tryd.prog w' = .ok (.int .i64 c) w' := fun _ => by kernel_rfl
        obtain ⟨n0, hn0⟩ : ∃ n0, n0 = parS a b c 2 := ⟨_, rfl⟩
        rw [← hn0] at HS ⊢
        clear hn0
        try rw [show ((2 : Nat) : Int) = 2 from rfl]
        have hdec : decide ((2 : Int) < 3) = true := rfl
        go_wp2
        go_loop [3, 5] (fun nv xv => ∃ (j N : Nat) (y : Int), j ≤ 63 ∧ y ≤ 9223372036854775807 ∧ xv = .int .i64 y ∧ nv = .int .i64 ((N : Int) % 2) ∧ Hid (N = n0 + bitS c.toNat j) ∧ Hid (y.toNat = c.toNat / 2 ^ j)) (fun _ xv => (intOf xv).toNat)
        case atStart => exact ⟨0, n0, c, by omega, HC.out.2, rfl, rfl, hid rfl, hid (by simp)⟩
        case round =>
          obtain ⟨j, N, y, hj, hy, rfl, rfl, HN, HY⟩ := hrel
          by_cases hpos : 0 < y
          · have hj63 : j < 63 := by
              refine Classical.byContradiction fun hc => ?_
              obtain rfl : j = 63 := by omega
              have := HY.out
              rw [top63 HC.out.2] at this
              omega
            have ha := and1 y
            have hx := xor_bits N y.toNat
            rw [show ((y.toNat : Nat) : Int) % 2 = y % 2 by omega] at hx
            obtain ⟨M, hM⟩ : ∃ M, M = N + y.toNat := ⟨_, rfl⟩
            rw [← hM] at hx
            have HE := hid (show bitS c.toNat (j + 1) = bitS c.toNat j + c.toNat / 2 ^ j % 2 from rfl)
            have HH := hid (half_pow c.toNat j)
            have HM := hid hM
            clear hM
            go_wp2
            refine ⟨⟨j + 1, bitS c.toNat (j + 1) + n0, y / 2, by omega, by omega, rfl, ?_, hid (Nat.add_comm _ _), hid ?_⟩, ?_⟩
            · congr 1; have h1 := HM.out; have h2 := HE.out; have h3 := HN.out; have h4 := HY.out; omega
            · rw [← HH.out, ← HY.out]; omega
            · simp [intOf] <;> omega
          · have hz : c.toNat / 2 ^ j = 0 := by have := HY.out; omega
            have HE := hid (show N = parS a b c (2 + 1) from by rw [HN.out, HS.out]; unfold parB; rw [bitS_end _ hz hj])
            clear hz
            go_wp2
            refine ⟨⟨2 + 1, by omega, rfl, by rw [HE.out]⟩, ?_⟩
            simp [intOf]
    · obtain rfl : k = 3 := by omega
      go_wp2
      go_ret
      exact ⟨by rw [HP.out]; rfl, B0.out⟩
set_option maxHeartbeats 4000000 in
theorem refParity_any (ps : List Int) (w : World) (hl : ps.length = 25) (hw : W64 ps) :
    Calls Tryd.prog 9 #[.agg (agi ps)] w fun e w' => e = .returned (.int .i64 (pkPar ps)) ∧ Below w.heap.size w w' := by
  have P0 := IB.new w 28 ps
  have B0 := ((Below.refl w.heap.size w).alloc (Nat.le_refl _) (.cells (agi ps) 28))
  have c0 := IB.cell P0 0 (by omega)
  have c1 := IB.cell P0 9 (by omega)
  have c2 := IB.cell P0 17 (by omega)
  have HA := hw.at_ 0
  have HB := hw.at_ 9
  have HC := hw.at_ 17
  have HP := hid (show pkPar ps = ((parB (ps.getD 0 0) + parB (ps.getD 9 0) + parB (ps.getD 17 0)) % 2 : Nat) from rfl)
  obtain ⟨a, ha⟩ : ∃ a, a = ps.getD 0 0 := ⟨_, rfl⟩
  obtain ⟨b, hb⟩ : ∃ b, b = ps.getD 9 0 := ⟨_, rfl⟩
  obtain ⟨c, hc⟩ : ∃ c, c = ps.getD 17 0 := ⟨_, rfl⟩
  rw [← ha] at c0 HA HP
  rw [← hb] at c1 HB HP
  rw [← hc] at c2 HC HP
  obtain ⟨V, hV⟩ : ∃ V, V = w.alloc (.cells (agi ps) 28) := ⟨_, rfl⟩
  have SV : V.heap.size = w.heap.size + 1 := by rw [hV]; simp
  rw [← hV] at c0 c1 c2 B0
  have B0 := hid (B0.alloc (by omega) (.cells #[.int .i64 a, .int .i64 b, .int .i64 c] 3))
  have HV := hid hV
  have HA := hid HA
  have HB := hid HB
  have HC := hid HC
  have L0 := hid (Blk.new V 3 #[.int .i64 a, .int .i64 b, .int .i64 c])
  clear ha hb hc hV hw hl P0 SV
  go_enter Tryd.func9, Tryd.ntmps9
  go_wp2_with (rw [← HV.out]; clear HV)
  obtain ⟨g, hg⟩ : ∃ g, g = V.heap.size := ⟨_, rfl⟩
  obtain ⟨V2, hV2⟩ : ∃ V2, V2 = V.alloc (.cells #[.int .i64 a, .int .i64 b, .int .i64 c] 3) := ⟨_, rfl⟩
  rw [← hg, ← hV2] at L0 ⊢
  rw [← hV2] at B0
  have k0 : V2.cell? ⟨g, 0, none⟩ = some (.int .i64 a) := Blk.cell L0.out 0
  have k1 : V2.cell? ⟨g, 1, none⟩ = some (.int .i64 b) := Blk.cell L0.out 1
  have k2 : V2.cell? ⟨g, 2, none⟩ = some (.int .i64 c) := Blk.cell L0.out 2
  clear hg hV2 c0 c1 c2
  go_loop [3, 19] (fun nv iv => ∃ k : Nat, k ≤ 3 ∧ iv = .int .i64 k ∧ nv = .int .i64 (parS a b c k : Nat)) (fun _ iv => 3 - (intOf iv).toNat)
  case atStart => exact ⟨0, by omega, rfl, rfl⟩
  case round =>
    obtain ⟨k, hk, rfl, rfl⟩ := hrel
    by_cases hlt : k < 3
    · obtain rfl | rfl | rfl : k = 0 ∨ k = 1 ∨ k = 2 := by omega
      · have HS := hid (show parS a b c (0 + 1) = parS a b c 0 + parB a from by simp [parS])
        obtain ⟨n0, hn0⟩ : ∃ n0, n0 = parS a b c 0 := ⟨_, rfl⟩
        have hn9 : n0 ≤ 189 := by rw [hn0]; unfold parS; have := parB_le a; have := parB_le b; have := parB_le c; split <;> split <;> split <;> omega
        rw [← hn0] at HS ⊢
        clear hn0
        try rw [show ((0 : Nat) : Int) = 0 from rfl]
        have hdec : decide ((0 : Int) < 3) = true := rfl
        go_wp2
        go_loop [3, 6] (fun nv kv => ∃ (j N : Nat), j ≤ 63 ∧ kv = .int .u64 j ∧ nv = .int .i64 (N : Nat) ∧ Hid (N = n0 + bitS a.toNat j) ∧ Hid (0 < j → 0 < a)) (fun _ kv => 63 - (intOf kv).toNat)
        case atStart => exact ⟨0, n0, by omega, rfl, rfl, hid rfl, hid (fun h => by omega)⟩
        case round =>
          obtain ⟨j, N, hj, rfl, rfl, HN, HJ⟩ := hrel
          have hxr := HA.out
          by_cases hpos : 0 < a
          · have d0 : decide (0 < a) = true := by simpa using hpos
            by_cases hj63 : j < 63
            · have d1 : decide ((j : Int) < 63) = true := by simp; omega
              have j0 : (0 : Int) ≤ j := by omega
              have j64 : (j : Int) < 64 := by omega
              have hle : bitS a.toNat j ≤ 63 := Nat.le_trans (bitS_le _ _) hj
              have hn : N ≤ 300 := by have := HN.out; omega
              obtain ⟨q, hq⟩ : ∃ q : Nat, q = a.toNat / 2 ^ j := ⟨_, rfl⟩
              have hq2 : a / 2 ^ j = (q : Nat) := by
                rw [hq]
                obtain ⟨X, hX⟩ : ∃ X : Nat, a = X := ⟨a.toNat, by omega⟩
                rw [hX]
                simp
              have HE := hid (show bitS a.toNat (j + 1) = bitS a.toNat j + q % 2 from by rw [hq]; rfl)
              clear hq hle
              go_wp2
              refine ⟨⟨j + 1, N + q % 2, by omega, by go_num, by push_cast; rfl, hid ?_, hid (fun _ => hpos)⟩, ?_⟩
              · rw [HE.out, HN.out, Nat.add_assoc]
              · simp [intOf] <;> omega
            · obtain rfl : j = 63 := by omega
              have d1 : decide (((63 : Nat) : Int) < 63) = false := rfl
              have hE : N = parS a b c (0 + 1) := by rw [HN.out, HS.out]; rfl
              try rw [show ((63 : Nat) : Int) = 63 from rfl]
              go_wp2
              refine ⟨⟨0 + 1, by omega, rfl, by rw [hE]⟩, ?_⟩
              simp [intOf]
          · obtain rfl : j = 0 := by
              refine Classical.byContradiction fun hc => ?_
              exact hpos (HJ.out (by omega))
            have d0 : decide (0 < a) = false := by simpa using hpos
            have hE : N = parS a b c (0 + 1) := by
              rw [HN.out, HS.out]
              unfold parB
              rw [bitS_end a.toNat (j := 0) (m := 63) (by rw [show a.toNat = 0 by omega]) (by omega)]
            go_wp2
            refine ⟨⟨0 + 1, by omega, rfl, by rw [hE]⟩, ?_⟩
            simp [intOf]
      · have HS := hid (show parS a b c (1 + 1) = parS a b c 1 + parB b from by simp [parS])
        obtain ⟨n0, hn0⟩ : ∃ n0, n0 = parS a b c 1 := ⟨_, rfl⟩
        have hn9 : n0 ≤ 189 := by rw [hn0]; unfold parS; have := parB_le a; have := parB_le b; have := parB_le c; split <;> split <;> split <;> omega
        rw [← hn0] at HS ⊢
        clear hn0
        try rw [show ((1 : Nat) : Int) = 1 from rfl]
        have hdec : decide ((1 : Int) < 3) = true := rfl
        go_wp2
        go_loop [3, 6] (fun nv kv => ∃ (j N : Nat), j ≤ 63 ∧ kv = .int .u64 j ∧ nv = .int .i64 (N : Nat) ∧ Hid (N = n0 + bitS b.toNat j) ∧ Hid (0 < j → 0 < b)) (fun _ kv => 63 - (intOf kv).toNat)
        case atStart => exact ⟨0, n0, by omega, rfl, rfl, hid rfl, hid (fun h => by omega)⟩
        case round =>
          obtain ⟨j, N, hj, rfl, rfl, HN, HJ⟩ := hrel
          have hxr := HB.out
          by_cases hpos : 0 < b
          · have d0 : decide (0 < b) = true := by simpa using hpos
            by_cases hj63 : j < 63
            · have d1 : decide ((j : Int) < 63) = true := by simp; omega
              have j0 : (0 : Int) ≤ j := by omega
              have j64 : (j : Int) < 64 := by omega
              have hle : bitS b.toNat j ≤ 63 := Nat.le_trans (bitS_le _ _) hj
              have hn : N ≤ 300 := by have := HN.out; omega
              obtain ⟨q, hq⟩ : ∃ q : Nat, q = b.toNat / 2 ^ j := ⟨_, rfl⟩
              have hq2 : b / 2 ^ j = (q : Nat) := by
                rw [hq]
                obtain ⟨X, hX⟩ : ∃ X : Nat, b = X := ⟨b.toNat, by omega⟩
                rw [hX]
                simp
              have HE := hid (show bitS b.toNat (j + 1) = bitS b.toNat j + q % 2 from by rw [hq]; rfl)
              clear hq hle
              go_wp2
              refine ⟨⟨j + 1, N + q % 2, by omega, by go_num, by push_cast; rfl, hid ?_, hid (fun _ => hpos)⟩, ?_⟩
              · rw [HE.out, HN.out, Nat.add_assoc]
              · simp [intOf] <;> omega
            · obtain rfl : j = 63 := by omega
              have d1 : decide (((63 : Nat) : Int) < 63) = false := rfl
              have hE : N = parS a b c (1 + 1) := by rw [HN.out, HS.out]; rfl
              try rw [show ((63 : Nat) : Int) = 63 from rfl]
              go_wp2
              refine ⟨⟨1 + 1, by omega, rfl, by rw [hE]⟩, ?_⟩
              simp [intOf]
          · obtain rfl : j = 0 := by
              refine Classical.byContradiction fun hc => ?_
              exact hpos (HJ.out (by omega))
            have d0 : decide (0 < b) = false := by simpa using hpos
            have hE : N = parS a b c (1 + 1) := by
              rw [HN.out, HS.out]
              unfold parB
              rw [bitS_end b.toNat (j := 0) (m := 63) (by rw [show b.toNat = 0 by omega]) (by omega)]
            go_wp2
            refine ⟨⟨1 + 1, by omega, rfl, by rw [hE]⟩, ?_⟩
            simp [intOf]
      · have HS := hid (show parS a b c (2 + 1) = parS a b c 2 + parB c from by simp [parS])
        obtain ⟨n0, hn0⟩ : ∃ n0, n0 = parS a b c 2 := ⟨_, rfl⟩
        have hn9 : n0 ≤ 189 := by rw [hn0]; unfold parS; have := parB_le a; have := parB_le b; have := parB_le c; split <;> split <;> split <;> omega
        rw [← hn0] at HS ⊢
        clear hn0
        try rw [show ((2 : Nat) : Int) = 2 from rfl]
        have hdec : decide ((2 : Int) < 3) = true := rfl
        go_wp2
        go_loop [3, 6] (fun nv kv => ∃ (j N : Nat), j ≤ 63 ∧ kv = .int .u64 j ∧ nv = .int .i64 (N : Nat) ∧ Hid (N = n0 + bitS c.toNat j) ∧ Hid (0 < j → 0 < c)) (fun _ kv => 63 - (intOf kv).toNat)
        case atStart => exact ⟨0, n0, by omega, rfl, rfl, hid rfl, hid (fun h => by omega)⟩
        case round =>
          obtain ⟨j, N, hj, rfl, rfl, HN, HJ⟩ := hrel
          have hxr := HC.out
          by_cases hpos : 0 < c
          · have d0 : decide (0 < c) = true := by simpa using hpos
            by_cases hj63 : j < 63
            · have d1 : decide ((j : Int) < 63) = true := by simp; omega
              have j0 : (0 : Int) ≤ j := by omega
              have j64 : (j : Int) < 64 := by omega
              have hle : bitS c.toNat j ≤ 63 := Nat.le_trans (bitS_le _ _) hj
              have hn : N ≤ 300 := by have := HN.out; omega
              obtain ⟨q, hq⟩ : ∃ q : Nat, q = c.toNat / 2 ^ j := ⟨_, rfl⟩
              have hq2 : c / 2 ^ j = (q : Nat) := by
                rw [hq]
                obtain ⟨X, hX⟩ : ∃ X : Nat, c = X := ⟨c.toNat, by omega⟩
                rw [hX]
                simp
              have HE := hid (show bitS c.toNat (j + 1) = bitS c.toNat j + q % 2 from by rw [hq]; rfl)
              clear hq hle
              go_wp2
              refine ⟨⟨j + 1, N + q % 2, by omega, by go_num, by push_cast; rfl, hid ?_, hid (fun _ => hpos)⟩, ?_⟩
              · rw [HE.out, HN.out, Nat.add_assoc]
              · simp [intOf] <;> omega
            · obtain rfl : j = 63 := by omega
              have d1 : decide (((63 : Nat) : Int) < 63) = false := rfl
              have hE : N = parS a b c (2 + 1) := by rw [HN.out, HS.out]; rfl
              try rw [show ((63 : Nat) : Int) = 63 from rfl]
              go_wp2
              refine ⟨⟨2 + 1, by omega, rfl, by rw [hE]⟩, ?_⟩
              simp [intOf]
          · obtain rfl : j = 0 := by
              refine Classical.byContradiction fun hc => ?_
              exact hpos (HJ.out (by omega))
            have d0 : decide (0 < c) = false := by simpa using hpos
            have hE : N = parS a b c (2 + 1) := by
              rw [HN.out, HS.out]
              unfold parB
              rw [bitS_end c.toNat (j := 0) (m := 63) (by rw [show c.toNat = 0 by omega]) (by omega)]
            go_wp2
            refine ⟨⟨2 + 1, by omega, rfl, by rw [hE]⟩, ?_⟩
            simp [intOf]
    · obtain rfl : k = 3 := by omega
      have hp3 : parS a b c 3 = parB a + parB b + parB c := rfl
      rw [hp3]
      generalize parB a + parB b + parB c = m at *
      go_wp2
      go_ret
      exact ⟨by rw [HP.out]; rfl, B0.out⟩
end Go.Proofs.YtnbenmpjpogldaaDoor
