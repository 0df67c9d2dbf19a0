/- Texts that the law rests on, laid together: PkP, ScoM, ScoW, BigBit, ScoR. -/
import Derived.Test.YthoiikkjjaldnaaDoorZ6b4648
import Derived.Test.YthoiikkjjaldnaaDoorZ9fe276
import Derived.Test.YthoiikkjjaldnaaDoorZ7a1a29
import Derived.Test.YthoiikkjjaldnaaDoorZadc01a
import Derived.BigRegion
import Derived.Test.YthoiikkjjaldnaaDoorZ7ba9e8
import Derived.Laws.CopyOwn
import Derived.Test.YthoiikkjjaldnaaDoorZe90ea5
/- The walks of both Paritys of a packet. -/
namespace Go.Proofs.YthoiikkjjaldnaaDoor
set_option linter.unusedVariables false
set_option linter.unusedSimpArgs false
set_option maxRecDepth 100000
open Go.RowKit

/-- How many of the first k bits are set. -/
def bitS (X : Nat) : Nat → Nat
  | 0 => 0
  | k + 1 => bitS X k + X / 2 ^ k % 2
theorem bitS_end (X : Nat) {j m : Nat} (h : X / 2 ^ j = 0) (hm : j ≤ m) : bitS X m = bitS X j := by
  induction m with
  | zero => obtain rfl : j = 0 := by omega
            rfl
  | succ m ih =>
    by_cases e : j = m + 1
    · rw [e]
    · have h1 := ih (by omega)
      have h2 : X / 2 ^ m = 0 := by
        obtain ⟨d, rfl⟩ : ∃ d, m = j + d := ⟨m - j, by omega⟩
        rw [Nat.pow_add, ← Nat.div_div_eq_div_mul, h, Nat.zero_div]
      simp only [bitS]
      rw [h1, h2, Nat.zero_mod, Nat.add_zero]
theorem half_pow (X j : Nat) : X / 2 ^ j / 2 = X / 2 ^ (j + 1) := by rw [Nat.div_div_eq_div_mul, Nat.pow_succ]
/-- How many bits of a number above 0 are set. -/
def parB (x : Int) : Nat := bitS x.toNat 63
theorem top63 {x : Int} (h : x ≤ 9223372036854775807) : x.toNat / 2 ^ 63 = 0 := Nat.div_eq_of_lt (by omega)
/-- The parity of a packet's kind and lags. -/
def pkPar (ps : List Int) : Int := ((parB (ps.getD 0 0) + parB (ps.getD 9 0) + parB (ps.getD 17 0)) % 2 : Nat)
/-- The sum of the first k of the three. -/
def parS (a b c : Int) (k : Nat) : Nat := (if 0 < k then parB a else 0) + (if 1 < k then parB b else 0) + (if 2 < k then parB c else 0)
theorem xor_bits (a b : Nat) : bits BinOp.xor IntKind.i64 ((a : Int) % 2) ((b : Int) % 2) = ((a + b : Nat) : Int) % 2 := by
  have ha : (a : Int) % 2 = 0 ∨ (a : Int) % 2 = 1 := by omega
  have hb : (b : Int) % 2 = 0 ∨ (b : Int) % 2 = 1 := by omega
  have e : ((a + b : Nat) : Int) % 2 = ((a : Int) % 2 + (b : Int) % 2) % 2 := by omega
  rw [e]
  rcases ha with h | h <;> rcases hb with h2 | h2 <;> rw [h, h2] <;> rfl

set_option maxHeartbeats 4000000 in
theorem packParity_any (ps : List Int) (w : World) (hl : ps.length = 25) (hw : W64 ps) :
    Calls Tryd.prog 69 #[.agg (agi ps)] w fun e w' => e = .returned (.int .i64 (pkPar ps)) ∧ Below w.heap.size w w' := by
  have P0 := IB.new w 77 ps
  have B0 := hid ((Below.refl w.heap.size w).alloc (Nat.le_refl _) (.cells (agi ps) 77))
  have c0 := IB.cell P0 0 (by omega)
  have c1 := IB.cell P0 9 (by omega)
  have c2 := IB.cell P0 17 (by omega)
  have HA := hw.at_ 0
  have HB := hw.at_ 9
  have HC := hw.at_ 17
  have HP := hid (show pkPar ps = ((parB (ps.getD 0 0) + parB (ps.getD 9 0) + parB (ps.getD 17 0)) % 2 : Nat) from rfl)
  obtain ⟨a, ha⟩ : ∃ a, a = ps.getD 0 0 := ⟨_, rfl⟩
  obtain ⟨b, hb⟩ : ∃ b, b = ps.getD 9 0 := ⟨_, rfl⟩
  obtain ⟨c, hc⟩ : ∃ c, c = ps.getD 17 0 := ⟨_, rfl⟩
  rw [← ha] at c0 HA HP
  rw [← hb] at c1 HB HP
  rw [← hc] at c2 HC HP
  obtain ⟨V, hV⟩ : ∃ V, V = w.alloc (.cells (agi ps) 77) := ⟨_, rfl⟩
  rw [← hV] at c0 c1 c2 B0
  have HV := hid hV
  have HA := hid HA
  have HB := hid HB
  have HC := hid HC
  clear ha hb hc hV hw hl P0
  go_enter Tryd.func69, Tryd.ntmps69
  go_wp2_with (rw [← HV.out]; clear HV)
  go_loop [3, 17] (fun nv iv => ∃ k : Nat, k ≤ 3 ∧ iv = .int .i64 k ∧ nv = .int .i64 ((parS a b c k : Nat) % 2 : Int)) (fun _ iv => 3 - (intOf iv).toNat)
  case atStart => exact ⟨0, by omega, rfl, rfl⟩
  case round =>
    obtain ⟨k, hk, rfl, rfl⟩ := hrel
    by_cases hlt : k < 3
    · obtain rfl | rfl | rfl : k = 0 ∨ k = 1 ∨ k = 2 := by omega
      · have HS := hid (show parS a b c (0 + 1) = parS a b c 0 + parB a from by simp [parS])
        have hix : ∀ w', (Instr.index 151 (.agg #[.int .i64 a, .int .i64 b, .int .i64 c]) (.int .i64 0)).run Tryd.prog w' = .ok (.int .i64 a) w' := fun _ => by kernel_rfl
        obtain ⟨n0, hn0⟩ : ∃ n0, n0 = parS a b c 0 := ⟨_, rfl⟩
        rw [← hn0] at HS ⊢
        clear hn0
        try rw [show ((0 : Nat) : Int) = 0 from rfl]
        have hdec : decide ((0 : Int) < 3) = true := rfl
        go_wp2
        go_loop [3, 5] (fun nv xv => ∃ (j N : Nat) (y : Int), j ≤ 63 ∧ y ≤ 9223372036854775807 ∧ xv = .int .i64 y ∧ nv = .int .i64 ((N : Int) % 2) ∧ Hid (N = n0 + bitS a.toNat j) ∧ Hid (y.toNat = a.toNat / 2 ^ j)) (fun _ xv => (intOf xv).toNat)
        case atStart => exact ⟨0, n0, a, by omega, HA.out.2, rfl, rfl, hid rfl, hid (by simp)⟩
        case round =>
          obtain ⟨j, N, y, hj, hy, rfl, rfl, HN, HY⟩ := hrel
          by_cases hpos : 0 < y
          · have hj63 : j < 63 := by
              refine Classical.byContradiction fun hc => ?_
              obtain rfl : j = 63 := by omega
              have := HY.out
              rw [top63 HA.out.2] at this
              omega
            have ha := and1 y
            have hx := xor_bits N y.toNat
            rw [show ((y.toNat : Nat) : Int) % 2 = y % 2 by omega] at hx
            obtain ⟨M, hM⟩ : ∃ M, M = N + y.toNat := ⟨_, rfl⟩
            rw [← hM] at hx
            have HE := hid (show bitS a.toNat (j + 1) = bitS a.toNat j + a.toNat / 2 ^ j % 2 from rfl)
            have HH := hid (half_pow a.toNat j)
            have HM := hid hM
            clear hM
            go_wp2
            refine ⟨⟨j + 1, bitS a.toNat (j + 1) + n0, y / 2, by omega, by omega, rfl, ?_, hid (Nat.add_comm _ _), hid ?_⟩, ?_⟩
            · congr 1; have h1 := HM.out; have h2 := HE.out; have h3 := HN.out; have h4 := HY.out; omega
            · rw [← HH.out, ← HY.out]; omega
            · simp [intOf] <;> omega
          · have hz : a.toNat / 2 ^ j = 0 := by have := HY.out; omega
            have HE := hid (show N = parS a b c (0 + 1) from by rw [HN.out, HS.out]; unfold parB; rw [bitS_end _ hz hj])
            clear hz
            go_wp2
            refine ⟨⟨0 + 1, by omega, rfl, by rw [HE.out]⟩, ?_⟩
            simp [intOf]
      · have HS := hid (show parS a b c (1 + 1) = parS a b c 1 + parB b from by simp [parS])
        have hix : ∀ w', (Instr.index 151 (.agg #[.int .i64 a, .int .i64 b, .int .i64 c]) (.int .i64 1)).run Tryd.prog w' = .ok (.int .i64 b) w' := fun _ => by kernel_rfl
        obtain ⟨n0, hn0⟩ : ∃ n0, n0 = parS a b c 1 := ⟨_, rfl⟩
        rw [← hn0] at HS ⊢
        clear hn0
        try rw [show ((1 : Nat) : Int) = 1 from rfl]
        have hdec : decide ((1 : Int) < 3) = true := rfl
        go_wp2
        go_loop [3, 5] (fun nv xv => ∃ (j N : Nat) (y : Int), j ≤ 63 ∧ y ≤ 9223372036854775807 ∧ xv = .int .i64 y ∧ nv = .int .i64 ((N : Int) % 2) ∧ Hid (N = n0 + bitS b.toNat j) ∧ Hid (y.toNat = b.toNat / 2 ^ j)) (fun _ xv => (intOf xv).toNat)
        case atStart => exact ⟨0, n0, b, by omega, HB.out.2, rfl, rfl, hid rfl, hid (by simp)⟩
        case round =>
          obtain ⟨j, N, y, hj, hy, rfl, rfl, HN, HY⟩ := hrel
          by_cases hpos : 0 < y
          · have hj63 : j < 63 := by
              refine Classical.byContradiction fun hc => ?_
              obtain rfl : j = 63 := by omega
              have := HY.out
              rw [top63 HB.out.2] at this
              omega
            have ha := and1 y
            have hx := xor_bits N y.toNat
            rw [show ((y.toNat : Nat) : Int) % 2 = y % 2 by omega] at hx
            obtain ⟨M, hM⟩ : ∃ M, M = N + y.toNat := ⟨_, rfl⟩
            rw [← hM] at hx
            have HE := hid (show bitS b.toNat (j + 1) = bitS b.toNat j + b.toNat / 2 ^ j % 2 from rfl)
            have HH := hid (half_pow b.toNat j)
            have HM := hid hM
            clear hM
            go_wp2
            refine ⟨⟨j + 1, bitS b.toNat (j + 1) + n0, y / 2, by omega, by omega, rfl, ?_, hid (Nat.add_comm _ _), hid ?_⟩, ?_⟩
            · congr 1; have h1 := HM.out; have h2 := HE.out; have h3 := HN.out; have h4 := HY.out; omega
            · rw [← HH.out, ← HY.out]; omega
            · simp [intOf] <;> omega
          · have hz : b.toNat / 2 ^ j = 0 := by have := HY.out; omega
            have HE := hid (show N = parS a b c (1 + 1) from by rw [HN.out, HS.out]; unfold parB; rw [bitS_end _ hz hj])
            clear hz
            go_wp2
            refine ⟨⟨1 + 1, by omega, rfl, by rw [HE.out]⟩, ?_⟩
            simp [intOf]
      · have HS := hid (show parS a b c (2 + 1) = parS a b c 2 + parB c from by simp [parS])
        have hix : ∀ w', (Instr.index 151 (.agg #[.int .i64 a, .int .i64 b, .int .i64 c]) (.int .i64 2)).run Tryd.prog w' = .ok (.int .i64 c) w' := fun _ => by kernel_rfl
        obtain ⟨n0, hn0⟩ : ∃ n0, n0 = parS a b c 2 := ⟨_, rfl⟩
        rw [← hn0] at HS ⊢
        clear hn0
        try rw [show ((2 : Nat) : Int) = 2 from rfl]
        have hdec : decide ((2 : Int) < 3) = true := rfl
        go_wp2
        go_loop [3, 5] (fun nv xv => ∃ (j N : Nat) (y : Int), j ≤ 63 ∧ y ≤ 9223372036854775807 ∧ xv = .int .i64 y ∧ nv = .int .i64 ((N : Int) % 2) ∧ Hid (N = n0 + bitS c.toNat j) ∧ Hid (y.toNat = c.toNat / 2 ^ j)) (fun _ xv => (intOf xv).toNat)
        case atStart => exact ⟨0, n0, c, by omega, HC.out.2, rfl, rfl, hid rfl, hid (by simp)⟩
        case round =>
          obtain ⟨j, N, y, hj, hy, rfl, rfl, HN, HY⟩ := hrel
          by_cases hpos : 0 < y
          · have hj63 : j < 63 := by
              refine Classical.byContradiction fun hc => ?_
              obtain rfl : j = 63 := by omega
              have := HY.out
              rw [top63 HC.out.2] at this
              omega
            have ha := and1 y
            have hx := xor_bits N y.toNat
            rw [show ((y.toNat : Nat) : Int) % 2 = y % 2 by omega] at hx
            obtain ⟨M, hM⟩ : ∃ M, M = N + y.toNat := ⟨_, rfl⟩
            rw [← hM] at hx
            have HE := hid (show bitS c.toNat (j + 1) = bitS c.toNat j + c.toNat / 2 ^ j % 2 from rfl)
            have HH := hid (half_pow c.toNat j)
            have HM := hid hM
            clear hM
            go_wp2
            refine ⟨⟨j + 1, bitS c.toNat (j + 1) + n0, y / 2, by omega, by omega, rfl, ?_, hid (Nat.add_comm _ _), hid ?_⟩, ?_⟩
            · congr 1; have h1 := HM.out; have h2 := HE.out; have h3 := HN.out; have h4 := HY.out; omega
            · rw [← HH.out, ← HY.out]; omega
            · simp [intOf] <;> omega
          · have hz : c.toNat / 2 ^ j = 0 := by have := HY.out; omega
            have HE := hid (show N = parS a b c (2 + 1) from by rw [HN.out, HS.out]; unfold parB; rw [bitS_end _ hz hj])
            clear hz
            go_wp2
            refine ⟨⟨2 + 1, by omega, rfl, by rw [HE.out]⟩, ?_⟩
            simp [intOf]
    · obtain rfl : k = 3 := by omega
      go_wp2
      go_ret
      exact ⟨by rw [HP.out]; rfl, B0.out⟩
end Go.Proofs.YthoiikkjjaldnaaDoor

/- Plain facts on how well pulses go with a target. -/
namespace Go.Proofs.YthoiikkjjaldnaaDoor
set_option linter.unusedVariables false
set_option linter.unusedSimpArgs false
set_option maxRecDepth 100000
open Go.RowKit

def sgp (x : Int) : Int := if x < 0 then -1 else 1
theorem sgp_two (x : Int) : sgp x = 1 ∨ sgp x = -1 := by
  unfold sgp
  split
  · exact .inr rfl
  · exact .inl rfl
def plc (ix : List Int) (t : Nat) : Nat := t + 4 * (ix.getD t 0).toNat
def en0 (ring : List Int) (a b : Nat) : Int := sumN (enT ring a b) 40
def sg (d ix : List Int) (t : Nat) : Int := sgp (d.getD (plc ix t) 0)
theorem en0_dot (ring : List Int) (a b : Nat) : dotL (lateL ring a) (lateL ring b) 40 = en0 ring a b := enT_sum ring a b
theorem en0_comm (ring : List Int) (a b : Nat) : en0 ring a b = en0 ring b a := by
  unfold en0
  exact sumN_congr 40 fun i _ => by unfold enT; exact Int.mul_comm _ _
theorem en0_range (ring : List Int) (a b : Nat) : -42949672960 ≤ en0 ring a b ∧ en0 ring a b ≤ 42949672960 := by
  have := enT_range ring a b 40
  unfold en0
  omega
def scT (d ring ix : List Int) (i j : Nat) : Int := sg d ix i * sg d ix j * en0 ring (plc ix i) (plc ix j)
theorem sg_mul {s x B : Int} (hs : s = 1 ∨ s = -1) (h : -B ≤ x ∧ x ≤ B) : -B ≤ s * x ∧ s * x ≤ B := by
  rcases hs with rfl | rfl
  · rw [Int.one_mul]; exact h
  · rw [Int.neg_one_mul]; omega
theorem sg_two (d ix : List Int) (t : Nat) : sg d ix t = 1 ∨ sg d ix t = -1 := sgp_two _
theorem scT_range (d ring ix : List Int) (i j : Nat) : -42949672960 ≤ scT d ring ix i j ∧ scT d ring ix i j ≤ 42949672960 := by
  unfold scT
  rw [Int.mul_assoc]
  exact sg_mul (sg_two d ix i) (sg_mul (sg_two d ix j) (en0_range ring _ _))
def scR (d ring ix : List Int) (i : Nat) : Int := sumN (scT d ring ix i) 4
def scE (d ring ix : List Int) : Int := sumN (scR d ring ix) 4
theorem sum_bound {f : Nat → Int} {B : Int} (h : ∀ i, -B ≤ f i ∧ f i ≤ B) (n : Nat) : -(B * n) ≤ sumN f n ∧ sumN f n ≤ B * n := by
  induction n with
  | zero => simp [sumN]
  | succ n ih =>
    simp only [sumN]
    have := h n
    have e : B * ((n + 1 : Nat) : Int) = B * n + B := by push_cast; rw [Int.mul_add, Int.mul_one]
    rw [e]
    omega
theorem scR_part (d ring ix : List Int) (i j : Nat) (hj : j ≤ 4) : -171798691840 ≤ sumN (scT d ring ix i) j ∧ sumN (scT d ring ix i) j ≤ 171798691840 := by
  have := sum_bound (scT_range d ring ix i) j
  omega
theorem scR_range (d ring ix : List Int) (i : Nat) : -171798691840 ≤ scR d ring ix i ∧ scR d ring ix i ≤ 171798691840 := scR_part d ring ix i 4 (Nat.le_refl _)
theorem scE_part (d ring ix : List Int) (i : Nat) (hi : i ≤ 4) : -687194767360 ≤ sumN (scR d ring ix) i ∧ sumN (scR d ring ix) i ≤ 687194767360 := by
  have := sum_bound (scR_range d ring ix) i
  omega
theorem scE_range (d ring ix : List Int) : -687194767360 ≤ scE d ring ix ∧ scE d ring ix ≤ 687194767360 := scE_part d ring ix 4 (Nat.le_refl _)

/-- The sum of the targets, as 64 bits count it. -/
def scC (d ix : List Int) : Nat → Int
  | 0 => 0
  | t + 1 => IntKind.i64.wrap (scC d ix t + IntKind.i64.wrap (sg d ix t * d.getD (plc ix t) 0))
theorem wrap64_range (x : Int) : -9223372036854775808 ≤ IntKind.i64.wrap x ∧ IntKind.i64.wrap x ≤ 9223372036854775807 := by
  rw [IntKind.wrap_i64]
  omega
theorem scC_64 (d ix : List Int) (t : Nat) : -9223372036854775808 ≤ scC d ix t ∧ scC d ix t ≤ 9223372036854775807 := by
  cases t with
  | zero => simp [scC]
  | succ t => exact wrap64_range _

/-! What is heard, and its energy. -/
/-! The table of energies. -/
structure Tbl (L ring : List Int) (a b : Nat) : Prop where
  len : L.length = 1600
  at_ : ∀ i j, i < 40 → j < 40 → (i < a ∧ j < a ∨ i = a ∧ j < b ∨ j = a ∧ i < b) → L.getD (i * 40 + j) 0 = en0 ring i j
theorem Tbl.start (ring : List Int) : Tbl (List.replicate 1600 0) ring 0 0 := ⟨by rw [List.length_replicate], fun i j _ _ h => by omega⟩
theorem Tbl.set_ {L ring : List Int} {a b : Nat} (h : Tbl L ring a b) (ha : a < 40) (hb : b ≤ a) : Tbl ((L.set (a * 40 + b) (en0 ring a b)).set (b * 40 + a) (en0 ring a b)) ring a (b + 1) := by
  refine ⟨by rw [List.length_set, List.length_set, h.len], fun i j hi hj hc => ?_⟩
  by_cases e1 : b * 40 + a = i * 40 + j
  · have : i = b ∧ j = a := by omega
    obtain ⟨rfl, rfl⟩ := this
    rw [get_set_same _ _ _ (by rw [List.length_set, h.len]; omega)]
    exact en0_comm _ _ _
  · rw [get_set_other _ _ e1]
    by_cases e2 : a * 40 + b = i * 40 + j
    · have : i = a ∧ j = b := by omega
      obtain ⟨rfl, rfl⟩ := this
      rw [get_set_same _ _ _ (by rw [h.len]; omega)]
    · rw [get_set_other _ _ e2]
      refine h.at_ i j hi hj ?_
      have e3 : ¬ (i = b ∧ j = a) := by omega
      have e4 : ¬ (i = a ∧ j = b) := by omega
      omega
theorem Tbl.next {L ring : List Int} {a : Nat} (h : Tbl L ring a (a + 1)) : Tbl L ring (a + 1) 0 := ⟨h.len, fun i j hi hj hc => h.at_ i j hi hj (by omega)⟩
theorem Tbl.get {L ring : List Int} (h : Tbl L ring 40 0) {i j : Nat} (hi : i < 40) (hj : j < 40) : L.getD (i * 40 + j) 0 = en0 ring i j := h.at_ i j hi hj (by omega)

def okIx (ix : List Int) : Bool := ix.all fun p => decide (0 ≤ p ∧ p ≤ 9)
theorem okIx_at {ix : List Int} (h : okIx ix = true) (t : Nat) : 0 ≤ ix.getD t 0 ∧ ix.getD t 0 ≤ 9 := by
  by_cases ht : t < ix.length
  · have := all_at h t ht
    simpa using this
  · rw [List.getD_eq_getElem?_getD, List.getElem?_eq_none (by omega)]; simp
theorem plc_lt {ix : List Int} (h : okIx ix = true) {t : Nat} (ht : t < 4) : plc ix t < 40 := by
  have := okIx_at h t
  unfold plc
  omega
/-- Places that are places. -/
def Ix (x : List Int) : Prop := x.length = 4 ∧ okIx x = true
def scErr (d ring ix : List Int) : Int := if d.length = 40 ∧ ring.length = 40 then (if okIx ix then 0 else 2) else 1
def scCv (d ring ix : List Int) : Int := if scErr d ring ix = 0 then scC d ix 4 else 0
def scEv (d ring ix : List Int) : Int := if scErr d ring ix = 0 then scE d ring ix else 0
end Go.Proofs.YthoiikkjjaldnaaDoor

/- The walks of package pulses' energies, sign, score and Score. -/
namespace Go.Proofs.YthoiikkjjaldnaaDoor
set_option linter.unusedVariables false
set_option linter.unusedSimpArgs false
set_option maxRecDepth 100000
open Go.RowKit

theorem size4i : (Tryd.prog.info? 72).map (·.size) = some 4 := by kernel_rfl
theorem zeroTbl : Tryd.zeroCells168 = agi (List.replicate 1600 0) := by kernel_rfl

theorem sign_any (x : Int) (w : World) : Calls Tryd.prog 101 #[.int .i64 x] w fun e w' => e = .returned (.int .i64 (sgp x)) ∧ w' = w := by
  by_cases h : x < 0
  · have hs := hid (show sgp x = -1 by unfold sgp; rw [if_pos h])
    go_enter Tryd.func101, Tryd.ntmps101
    go_wp2
    go_ret
    exact ⟨by rw [hs.out]; rfl, rfl⟩
  · have hs := hid (show sgp x = 1 by unfold sgp; rw [if_neg h])
    go_enter Tryd.func101, Tryd.ntmps101
    go_wp2
    go_ret
    exact ⟨by rw [hs.out]; rfl, rfl⟩

set_option maxHeartbeats 4000000 in
theorem energies_any (A : Option Addr) (c : Nat) (ring : List Int) (w : World) (hr : Rs w w.heap.size A ring) (hn : ring.length = 40) (hw : W64 ring) :
    Calls Tryd.prog 95 #[.slice A 40 c] w (fun e w' => ∃ L, e = .returned (.pointer (some ⟨w.heap.size, 0, none⟩)) ∧ IB w' w.heap.size 168 L ∧ Tbl L ring 40 0 ∧ Below w.heap.size w w') := by
  have HR := hid hr
  have KE := hid (fun (W : World) (h : Rs W W.heap.size A ring) (a b : Nat) (ha : a < 40) (hb : b < 40) => show Calls Tryd.prog 100 #[.slice A 40 c, .int .i64 (a : Nat), .int .i64 (b : Nat)] W (fun e w' => e = .returned (.tuple #[.int .i64 (en0 ring a b), .int .i64 0]) ∧ Below W.heap.size W w') from by
    refine (pulsesEnergy_any A c 40 ring a b W h hn hw).mono ?_
    rintro e w' ⟨rfl, hB⟩
    have he : enErr ring.length (a : Int) (b : Int) = 0 := by unfold enErr inH; rw [if_pos hn]; simp; omega
    refine ⟨?_, hB⟩
    rw [he]
    unfold enV
    rw [he, if_pos rfl, en0_dot]
    rfl)
  have I0 := hid (show IB (w.alloc (.cells Tryd.zeroCells168 168)) w.heap.size 168 (List.replicate 1600 0) from by rw [zeroTbl]; exact IB.new w _ _)
  have B0 := hid ((Below.refl w.heap.size w).alloc (Nat.le_refl _) (.cells Tryd.zeroCells168 168))
  have T0 := hid (Tbl.start ring)
  clear hr hn hw
  go_enter Tryd.func95, Tryd.ntmps95
  go_wp2
  generalize w.alloc (.cells Tryd.zeroCells168 168) = w0 at I0 B0 ⊢
  generalize List.replicate 1600 (0 : Int) = L0 at I0 T0
  go_loopw [8] (fun iv wr => ∃ (a : Nat) (L : List Int), a ≤ 40 ∧ iv = .int .i64 a ∧ Hid (IB wr w.heap.size 168 L) ∧ Hid (Tbl L ring a 0) ∧ Hid (Below w.heap.size w wr)) (fun iv _ => 40 - (intOf iv).toNat)
  case atStart => exact ⟨0, L0, by omega, rfl, I0, T0, B0⟩
  case round =>
    clear I0 T0 B0
    obtain ⟨a, L, ha, rfl, HI, HT, HB⟩ := hrel
    obtain ⟨wo, rfl⟩ : ∃ wo : World, wo = wr := ⟨_, rfl⟩
    by_cases hlt : a < 40
    · have hdec : decide ((a : Int) < 40) = true := by simp; omega
      go_wp2
      go_loopw [13] (fun iv wr => ∃ (b : Nat) (L : List Int), b ≤ a + 1 ∧ iv = .int .i64 b ∧ Hid (IB wr w.heap.size 168 L) ∧ Hid (Tbl L ring a b) ∧ Hid (Below w.heap.size w wr)) (fun iv _ => a + 1 - (intOf iv).toNat)
      case atStart => exact ⟨0, L, by omega, rfl, HI, HT, HB⟩
      case round =>
        clear HI HT HB
        obtain ⟨b, L, hb, rfl, HI, HT, HB⟩ := hrel
        by_cases hlb : b < a + 1
        · have KX := hid (KE.out wr ((HR.out.below HB.out).more HB.out.size) a b hlt (by omega))
          have LT := hid (HT.out.set_ hlt (by omega : b ≤ a))
          generalize en0 ring a b = x at *
          go_wp2_with fail
          refine KX.out.mono ?_
          rintro e w1 ⟨rfl, hB⟩
          have I1 := hid (Blk.below' HI.out hB)
          have B1 := hid (HB.out.trans (hB.mono HB.out.size))
          clear hB HI HB KX KE
          have c1 := IB.cell I1.out (a * 40 + b) (by rw [HT.out.len]; omega)
          have c2 := IB.cell I1.out (b * 40 + a) (by rw [HT.out.len]; omega)
          have f1 := Blk.frozen I1.out (a * 40 + b)
          have f2 := Blk.frozen I1.out (b * 40 + a)
          have i1 : (a : Int) < 40 := by omega
          have i2 : (b : Int) < 40 := by omega
          have i3 : (0 : Int) ≤ a := by omega
          have i4 : (0 : Int) ≤ b := by omega
          obtain ⟨v1, hv1⟩ := cell?_setCell_some (w := w1) (p := ⟨w.heap.size, a * 40 + b, none⟩) (x := .int .i64 x) (q := ⟨w.heap.size, b * 40 + a, none⟩) c2
          obtain ⟨v2, hv2⟩ := cell?_setCell_some (w := w1) (p := ⟨w.heap.size, b * 40 + a, none⟩) (x := .int .i64 x) (q := ⟨w.heap.size, a * 40 + b, none⟩) c1
          have NI := hid (IB.set_ (IB.set_ I1.out (a * 40 + b) x) (b * 40 + a) x)
          have NB := hid ((B1.out.setCell (p := ⟨w.heap.size, a * 40 + b, none⟩) (Nat.le_refl _) (.int .i64 x)).setCell (p := ⟨w.heap.size, b * 40 + a, none⟩) (Nat.le_refl _) (.int .i64 x))
          clear I1 B1
          go_wp2
          go_region
          clear c1 c2 f1 f2 hv1 hv2
          go_wp2
          go_roundw
          case rel => exact ⟨b + 1, _, by omega, by go_num, hid (Blk.drew NI.out), LT, hid NB.out.drew⟩
          case measure => simp [intOf] <;> omega
        · obtain rfl : b = a + 1 := by omega
          go_wp2
          go_roundw
          case rel => exact ⟨a + 1, L, by omega, by go_num, HI, hid HT.out.next, HB⟩
          case measure => simp [intOf] <;> omega
    · obtain rfl : a = 40 := by omega
      go_wp2
      go_ret
      exact ⟨L, rfl, HI.out, HT.out, HB.out⟩

set_option maxHeartbeats 4000000 in
theorem score_any (A : Option Addr) (c g : Nat) (d ring ix L : List Int) (w : World) (hd : Rs w w.heap.size A d) (dl : d.length = 40) (dw : W64 d) (hL : IB w g 168 L) (ht : Tbl L ring 40 0) (hx : Ix ix) :
    Calls Tryd.prog 97 #[.slice A 40 c, .pointer (some ⟨g, 0, none⟩), .agg (agi ix)] w (fun e w' => e = .returned (.tuple #[.int .i64 (scC d ix 4), .int .i64 (scE d ring ix)]) ∧ Below w.heap.size w w') := by
  have HIX := hid (fun (k : Nat) (hk : k < 4) (w : World) => run_index_agi Tryd.underlying72 ix hx.1 k hk w)
  have BA := hid ((Below.refl w.heap.size w).alloc (Nat.le_refl _) (.cells (agi ix) 72))
  have I0 := hid (IB.new w 72 ix)
  have HD := hid ((hd.below BA.out).more BA.out.size)
  have HL := hid (show IB (w.alloc (.cells (agi ix) 72)) g 168 L from Blk.alloc hL _)
  have HT := hid ht
  have DL := hid dl
  have DW := hid dw
  have OK := hid hx.2
  have X4 := hid hx.1
  have KS := hid (fun (x : Int) W => sign_any x W)
  clear hd dl dw hL ht hx
  go_enter Tryd.func97, Tryd.ntmps97
  go_wp2_with (first
    | (refine wpList_loadI rfl 72 (.tmp 5) rfl _ 72 ix 4 _ rfl I0.out Tryd.underlying72 rfl size4i X4.out ?_))
  obtain ⟨V, hV⟩ : ∃ V, V = w.alloc (.cells (agi ix) 72) := ⟨_, rfl⟩
  rw [← hV] at I0 HD HL BA ⊢
  clear hV
  go_loopw [8, 9, 17] (fun cv ev iv wr => ∃ (i : Nat) (e : Int), i ≤ 4 ∧ iv = .int .i64 i ∧ cv = .int .i64 (scC d ix i) ∧ ev = .int .i64 e ∧ Hid (e = sumN (scR d ring ix) i) ∧ Hid (Below V.heap.size V wr)) (fun _ _ iv _ => 4 - (intOf iv).toNat)
  case atStart => exact ⟨0, 0, by omega, rfl, rfl, rfl, hid rfl, hid (Below.refl _ _)⟩
  case round =>
    obtain ⟨i, e, hi, rfl, rfl, rfl, HE, HB⟩ := hrel
    by_cases hlt : i < 4
    · have hI := HIX.out i hlt
      have po := okIx_at OK.out i
      obtain ⟨q, hq⟩ := Int.eq_ofNat_of_zero_le po.1
      have pa := plc_lt OK.out hlt
      have hpl : (i : Int) + 4 * (q : Nat) = (plc ix i : Nat) := by unfold plc; rw [hq]; push_cast; rfl
      have SC := hid (show scC d ix (i + 1) = IntKind.i64.wrap (scC d ix i + IntKind.i64.wrap (sg d ix i * d.getD (plc ix i) 0)) from rfl)
      have SE := hid (show sumN (scR d ring ix) (i + 1) = e + scR d ring ix i by rw [HE.out]; rfl)
      have er := scE_part d ring ix i (by omega)
      rw [← HE.out] at er
      have e1 : -687194767360 ≤ e := er.1
      have e2 : e ≤ 687194767360 := er.2
      rw [hq] at hI po
      have SG := hid (show sg d ix i = sgp (d.getD (plc ix i) 0) from rfl)
      have ST := hid (fun j => show scT d ring ix i j = sg d ix i * sg d ix j * en0 ring (plc ix i) (plc ix j) from rfl)
      have SR := hid (show scR d ring ix i = sumN (scT d ring ix i) 4 from rfl)
      have SB := hid (fun j hj => scR_part d ring ix i j hj)
      have I1 := hid (Blk.below' I0.out HB.out)
      have D1 := hid ((HD.out.below HB.out).more HB.out.size)
      have L1 := hid (Blk.below' HL.out HB.out)
      obtain ⟨a, ha⟩ : ∃ a, a = plc ix i := ⟨_, rfl⟩
      rw [← ha] at hpl pa SC SG ST
      obtain ⟨ad, rfl, hadb, c0⟩ := D1.out.at_ (k := a) (by rw [DL.out]; exact pa)
      obtain ⟨x, hx⟩ : ∃ x, x = d.getD a 0 := ⟨_, rfl⟩
      rw [← hx] at c0 SC SG
      have KX := hid (fun W => KS.out x W)
      obtain ⟨s, hs⟩ : ∃ s, s = sgp x := ⟨_, rfl⟩
      rw [← hs] at KX SG
      rw [SG.out] at SC ST
      have s2 : s = 1 ∨ s = -1 := by rw [hs]; exact sgp_two x
      have HA := hid ha
      have HQ := hid hq
      have HS := hid hs
      have HX := hid hx
      have S2 := hid s2
      generalize scC d ix i = cc at *
      have q9 : (q : Int) ≤ 9 := po.2
      have a40 : (a : Int) < 40 := by omega
      have a0 : (0 : Int) ≤ a := by omega
      have hw0 : IntKind.i64.wrap (4 * (q : Int)) = 4 * (q : Int) := by rw [IntKind.wrap_i64]; omega
      have hdec : decide ((i : Int) < 4) = true := by simp; omega
      clear po ha hq hs hx er s2 HD HL
      obtain ⟨wo, hwo⟩ : ∃ wo : World, wo = wr := ⟨_, rfl⟩
      rw [← hwo] at I1 D1 L1 HB c0 ⊢
      clear hwo
      go_wp2
      go_quiet ((go_at_call 101; (with_reducible exact Calls.quiet_of_same (KX.out _))))
      rename_i nq
      have I2 := hid (show IB (wo.drewN nq) w.heap.size 72 ix from I1.out)
      have B2 := hid (HB.out.trans ((below_drN wo nq).mono HB.out.size))
      have D2 := hid (show Rs (wo.drewN nq) (wo.drewN nq).heap.size (some ad) d from D1.out)
      have L2 := hid (show IB (wo.drewN nq) g 168 L from L1.out)
      clear I1 HB D1 L1 c0
      generalize wo.drewN nq = w2 at *
      go_wp2_with (first
        | (refine wpList_loadI rfl 72 (.tmp 5) rfl _ 72 ix 4 _ rfl I2.out Tryd.underlying72 rfl size4i X4.out ?_))
      go_loopw [9, 38] (fun ev jv wr => ∃ (j : Nat) (f : Int), j ≤ 4 ∧ jv = .int .i64 j ∧ ev = .int .i64 f ∧ Hid (f = e + sumN (scT d ring ix i) j) ∧ Hid (Below V.heap.size V wr) ∧ Hid (Rs wr wr.heap.size (some ad) d) ∧ Hid (IB wr g 168 L)) (fun _ jv _ => 4 - (intOf jv).toNat)
      case atStart => exact ⟨0, e, by omega, rfl, rfl, hid (by simp [sumN]), B2, D2, L2⟩
      case round =>
        clear B2 D2 L2 I2
        obtain ⟨j, f, hj, rfl, rfl, HF, HB, D1, L1⟩ := hrel
        by_cases hltj : j < 4
        · have hJ := HIX.out j hltj
          have po := okIx_at OK.out j
          obtain ⟨r, hr⟩ := Int.eq_ofNat_of_zero_le po.1
          have pb := plc_lt OK.out hltj
          have hpj : (j : Int) + 4 * (r : Nat) = (plc ix j : Nat) := by unfold plc; rw [hr]; push_cast; rfl
          rw [hr] at hJ po
          have SJ := hid (show sg d ix j = sgp (d.getD (plc ix j) 0) from rfl)
          have er := en0_range ring a (plc ix j)
          have TJ := ST.out j
          have CT := IB.cell L1.out (a * 40 + plc ix j) (by rw [HT.out.len]; omega)
          rw [HT.out.get pa pb] at CT
          obtain ⟨b, hb⟩ : ∃ b, b = plc ix j := ⟨_, rfl⟩
          rw [← hb] at hpj pb SJ er TJ CT
          obtain ⟨ad2, had2, _, c0⟩ := D1.out.at_ (k := a) (by rw [DL.out]; exact pa)
          obtain ⟨ad3, had3, _, c1⟩ := D1.out.at_ (k := b) (by rw [DL.out]; exact pb)
          injection had2 with had2
          injection had3 with had3
          subst had2
          subst had3
          rw [← HX.out] at c0
          obtain ⟨y, hy⟩ : ∃ y, y = d.getD b 0 := ⟨_, rfl⟩
          rw [← hy] at c1 SJ
          have KY := hid (fun W => KS.out y W)
          obtain ⟨u, hu⟩ : ∃ u, u = sgp y := ⟨_, rfl⟩
          rw [← hu] at KY SJ
          rw [SJ.out] at TJ
          have u2 : u = 1 ∨ u = -1 := by rw [hu]; exact sgp_two y
          have s2 := S2.out
          generalize en0 ring a b = z at *
          have p1 : s * u = 1 ∨ s * u = -1 := by rcases s2 with rfl | rfl <;> rcases u2 with rfl | rfl <;> decide
          have p2 := sg_mul p1 er
          have SB1 := SB.out j (by omega)
          have NF := hid (show f + s * u * z = e + sumN (scT d ring ix i) (j + 1) by rw [HF.out, sumN, TJ]; omega)
          have hf := HF.out
          have hw1 : IntKind.i64.wrap (s * u) = s * u := by rw [IntKind.wrap_i64]; omega
          have hw2 : IntKind.i64.wrap (s * u * z) = s * u * z := by rw [IntKind.wrap_i64]; omega
          have hw3 : IntKind.i64.wrap (f + s * u * z) = f + s * u * z := by rw [IntKind.wrap_i64]; omega
          have hw4 : IntKind.i64.wrap (4 * (r : Int)) = 4 * (r : Int) := by rw [IntKind.wrap_i64]; omega
          have r9 : (r : Int) ≤ 9 := po.2
          have b40 : (b : Int) < 40 := by omega
          have b0 : (0 : Int) ≤ b := by omega
          have HBB := hid hb
          have HY := hid hy
          have HU := hid hu
          clear po hb hy hu er u2 s2 p1 p2 SB1 hf hr
          obtain ⟨wo2, hwo2⟩ : ∃ wo2 : World, wo2 = wr := ⟨_, rfl⟩
          rw [← hwo2] at D1 L1 HB c0 c1 CT ⊢
          clear hwo2
          go_wp2
          go_quiet ((go_at_call 101; first | (with_reducible exact Calls.quiet_of_same (KX.out _)) | (with_reducible exact Calls.quiet_of_same (KY.out _))))
          have B3 := hid (fun N => HB.out.trans ((below_drN wo2 N).mono HB.out.size))
          have D3 := hid (fun N => show Rs (wo2.drewN N) (wo2.drewN N).heap.size (some ad) d from D1.out)
          have L3 := hid (fun N => show IB (wo2.drewN N) g 168 L from L1.out)
          clear HB D1 L1 c0 c1 CT hw1 hw2 hw3
          go_wp2
          go_roundw
          case rel => exact ⟨j + 1, _, by omega, by go_num, rfl, NF, hid (B3.out _), hid (D3.out _), hid (L3.out _)⟩
          case measure => simp [intOf] <;> omega
        · obtain rfl : j = 4 := by omega
          have NE := hid (show f = sumN (scR d ring ix) (i + 1) by rw [HF.out, SE.out, SR.out])
          go_wp2
          go_roundw
          case rel => exact ⟨i + 1, f, by omega, by go_num, by rw [SC.out]; first | rfl | (simp only [wrap64, IntKind.wrap_i64]), rfl, NE, HB⟩
          case measure => simp [intOf] <;> omega
    · obtain rfl : i = 4 := by omega
      go_wp2
      go_ret2
      exact ⟨by rw [HE.out]; rfl, BA.out.trans (HB.out.mono BA.out.size)⟩
end Go.Proofs.YthoiikkjjaldnaaDoor

/- SetBit of Int, for small numbers. -/
namespace Go.Proofs.YthoiikkjjaldnaaDoor
set_option linter.unusedVariables false
set_option linter.unusedSimpArgs false
set_option maxRecDepth 100000
open Go.RowKit

theorem or64 {z p : Nat} (e : z ||| p = z + p) (h : z + p < 4294967296) : bits BinOp.or IntKind.i64 (z : Nat) (p : Nat) = ((z + p : Nat) : Int) := by
  have hlt : (BitVec.ofInt 64 (z : Int) ||| BitVec.ofInt 64 (p : Int)).toNat = z + p := by
    rw [BitVec.ofInt_natCast, BitVec.ofInt_natCast, BitVec.toNat_or, BitVec.toNat_ofNat, BitVec.toNat_ofNat, Nat.mod_eq_of_lt (by omega), Nat.mod_eq_of_lt (by omega), e]
  show IntKind.i64.wrap ((BitVec.ofInt 64 (z : Int) ||| BitVec.ofInt 64 (p : Int)).toNat : Int) = _
  rw [hlt, IntKind.wrap_i64]
  omega
end Go.Proofs.YthoiikkjjaldnaaDoor

/- The walks of the reference's S16 and Score. -/
namespace Go.Proofs.YthoiikkjjaldnaaDoor
set_option linter.unusedVariables false
set_option linter.unusedSimpArgs false
set_option maxRecDepth 100000
open Go.RowKit


theorem list4 : ∀ {l : List Int} (_ : l.length = 4), ∃ a b c d, l = [a, b, c, d]
  | [a, b, c, d], _ => ⟨a, b, c, d, rfl⟩

/-! The row of what is heard, while the track t is rung from its place up to the sample k. -/
def ScAns (d ring ix : List Int) (w : World) (e : Ending) (w' : World) : Prop := e = .returned (.tuple #[.int .i64 (scCv d ring ix), .int .i64 (scEv d ring ix), .int .i64 (scErr d ring ix)]) ∧ Below w.heap.size w w'
theorem ScAns.bad {d ring ix : List Int} {w w' : World} {er : Int} (he : scErr d ring ix = er) (h0 : er ≠ 0) (hB : Below w.heap.size w w') : ScAns d ring ix w (.returned (.tuple #[.int .i64 0, .int .i64 0, .int .i64 er])) w' :=
  ⟨by unfold scCv scEv; rw [he, if_neg h0, if_neg h0], hB⟩
theorem ScAns.good {d ring ix : List Int} {w w' : World} (he : scErr d ring ix = 0) (hB : Below w.heap.size w w') : ScAns d ring ix w (.returned (.tuple #[.int .i64 (scC d ix 4), .int .i64 (scE d ring ix), .int .i64 0])) w' :=
  ⟨by unfold scCv scEv; rw [he, if_pos rfl, if_pos rfl], hB⟩


end Go.Proofs.YthoiikkjjaldnaaDoor
