/- Texts that the law rests on, laid together: PkG, PkV, UnV, BestM. -/
import Derived.Test.YthoiikkjjaldnaaDoorZc724a3
import Derived.Test.YthoiikkjjaldnaaDoorZ7ba9e8
import Derived.BigQuiet
import Derived.Deep.QuietTactic
import Derived.Test.YthoiikkjjaldnaaDoorZb6a6d3
import Derived.Test.YthoiikkjjaldnaaDoorZ0203b5
import Derived.Test.YthoiikkjjaldnaaDoorZaa54cf
import Derived.Test.YthoiikkjjaldnaaDoorZadc01a
/- The walk of the program's Good of a packet. -/
namespace Go.Proofs.YthoiikkjjaldnaaDoor
set_option linter.unusedVariables false
set_option linter.unusedSimpArgs false
set_option maxRecDepth 100000
open Go.RowKit

def pkOk (ps : List Int) (i : Nat) : Prop := 0 ≤ ps.getD i 0 ∧ ps.getD i 0 ≤ pkT.getD i 0
instance (ps : List Int) (i : Nat) : Decidable (pkOk ps i) := by unfold pkOk; infer_instance
/-- Are the first n numbers in their bounds? -/
def pkTo (ps : List Int) (n : Nat) : Bool := (List.range n).all (fun i => decide (pkOk ps i))
theorem pkTo_zero (ps : List Int) : pkTo ps 0 = true := rfl
theorem pkTo_succ {ps : List Int} {n : Nat} (h : pkTo ps n = true) (h2 : pkOk ps n) : pkTo ps (n + 1) = true := by
  unfold pkTo at *
  rw [List.range_succ, List.all_append, h]
  simp [h2]
theorem pkTo_not {ps : List Int} {n m : Nat} (hn : n < m) (h2 : ¬ pkOk ps n) : pkTo ps m = false := by
  unfold pkTo
  rw [List.all_eq_false]
  exact ⟨n, by simpa using hn, by simpa using h2⟩
theorem pkTo_at {ps : List Int} {n i : Nat} (h : pkTo ps n = true) (hi : i < n) : pkOk ps i := by
  unfold pkTo at h
  rw [List.all_eq_true] at h
  simpa using h i (by simpa using hi)

set_option maxHeartbeats 4000000 in
theorem packGood_any (ps : List Int) (w : World) (T : TabA w 1 widthL) (hl : ps.length = 25) :
    Calls Tryd.prog 66 #[.agg (agi ps)] w fun e w' => e = .returned (.bool (pkTo ps 25)) ∧ Below w.heap.size w w' := by
  have P0 := hid (IB.new w 77 ps)
  have B0 := hid ((Below.refl w.heap.size w).alloc (Nat.le_refl _) (.cells (agi ps) 77))
  have T0 := hid (T.below B0.out)
  have HL := hid hl
  clear T hl
  obtain ⟨V, hV⟩ : ∃ V, V = w.alloc (.cells (agi ps) 77) := ⟨_, rfl⟩
  have SV := hid (show V.heap.size = w.heap.size + 1 by rw [hV]; simp)
  rw [← hV] at P0 B0 T0
  have HV := hid hV
  clear hV
  go_enter Tryd.func66, Tryd.ntmps66
  go_wp2_with (first
    | (rw [← HV.out]; clear HV)
    | (go_at_call 68; (with_reducible refine (fields_any w.heap.size V T0.out).mono ?_); rintro e w1 ⟨A, c, rfl, hO, hB⟩; obtain ⟨b, rfl, hb1, hb2, hb3⟩ := OwnF.at_ hO (by omega); have HB1 := hid hb1; have HB2 := hid hb2; have HC := hid hb3; have P1 := hid (Blk.below' P0.out hB); have B1 := hid (B0.out.trans (hB.mono B0.out.size)); clear hO hB hb1 hb2 hb3))
  go_loopw [7] (fun iv wr => ∃ i : Nat, i ≤ 25 ∧ iv = .int .i64 i ∧ Hid (pkTo ps i = true) ∧ Hid (Below w1.heap.size w1 wr)) (fun iv _ => 25 - (intOf iv).toNat)
  case atStart => exact ⟨0, by omega, rfl, hid (pkTo_zero ps), hid (Below.refl _ _)⟩
  case round =>
    obtain ⟨i, hi, rfl, HP, HB⟩ := hrel
    by_cases hlt : i < 25
    · obtain ⟨f0, f1, f2⟩ := HC.out i hlt
      have hs1 := HB.out.size
      have hb1 := HB1.out
      have c0 : wr.cell? ⟨b, i * 3, none⟩ = some (.pointer (some ⟨w.heap.size, i, none⟩)) := by rw [Nat.mul_comm]; exact (HB.out.cell (p := ⟨b, 3 * i, none⟩) hb1).trans f0
      have c1 : wr.cell? ⟨b, i * 3 + 1, none⟩ = some (.int .i64 (pkB.getD i 0)) := by rw [Nat.mul_comm]; exact (HB.out.cell (p := ⟨b, 3 * i + 1, none⟩) hb1).trans f1
      have c2 : wr.cell? ⟨b, i * 3 + 2, none⟩ = some (.int .i64 (pkT.getD i 0)) := by rw [Nat.mul_comm]; exact (HB.out.cell (p := ⟨b, 3 * i + 2, none⟩) hb1).trans f2
      have p0 : wr.cell? ⟨w.heap.size, i, none⟩ = some (.int .i64 (ps.getD i 0)) := IB.cell (Blk.below' P1.out HB.out) i (by rw [HL.out]; exact hlt)
      have hpl : w.heap.size < wr.heap.size := Blk.lt (Blk.below' P1.out HB.out)
      have HN := hid (fun h => pkTo_not (ps := ps) hlt h)
      have HY := hid (fun h => pkTo_succ HP.out h)
      have HD := hid (show pkOk ps i ↔ 0 ≤ ps.getD i 0 ∧ ps.getD i 0 ≤ pkT.getD i 0 from Iff.rfl)
      generalize ps.getD i 0 = x at *
      generalize pkT.getD i 0 = t at *
      generalize pkB.getD i 0 = bb at *
      have i0 : (0 : Int) ≤ i := by omega
      have i25 : (i : Int) < 25 := by omega
      obtain ⟨W, hW⟩ : ∃ W, W = wr.alloc (.cells #[.pointer (some ⟨w.heap.size, i, none⟩), .int .i64 bb, .int .i64 t] 135) := ⟨_, rfl⟩
      have q0 : W.cell? ⟨wr.heap.size, 0, none⟩ = some (.pointer (some ⟨w.heap.size, i, none⟩)) := by rw [hW]; exact Blk.cell (Blk.new wr _ _) 0
      have q2 : W.cell? ⟨wr.heap.size, 2, none⟩ = some (.int .i64 t) := by rw [hW]; exact Blk.cell (Blk.new wr _ _) 2
      have qx : W.cell? ⟨w.heap.size, i, none⟩ = some (.int .i64 x) := by rw [hW]; exact (((Below.refl wr.heap.size wr).alloc (Nat.le_refl _) _).cell (p := ⟨w.heap.size, i, none⟩) hpl).trans p0
      have BW := hid (show Below w1.heap.size w1 W by rw [hW]; exact HB.out.alloc hs1 _)
      clear f0 f1 f2
      go_wp2
      rw [← hW]
      clear hW c0 c1 c2 p0
      by_cases hx : x < 0
      · have d0 : decide (x < 0) = true := by simpa using hx
        go_quiet (fail)
        go_wp2
        go_ret
        exact ⟨by rw [HN.out (fun h => by have := HD.out.1 h; omega)]; rfl, B1.out.trans ((BW.out.trans ((below_drN W _).mono BW.out.size)).mono B1.out.size)⟩
      · have d0 : decide (x < 0) = false := by simpa using hx
        by_cases ht : t < x
        · have d1 : decide (t < x) = true := by simpa using ht
          go_quiet (fail)
          go_wp2
          go_ret
          exact ⟨by rw [HN.out (fun h => by have := HD.out.1 h; omega)]; rfl, B1.out.trans ((BW.out.trans ((below_drN W _).mono BW.out.size)).mono B1.out.size)⟩
        · have d1 : decide (t < x) = false := by simpa using ht
          go_quiet (fail)
          go_wp2
          go_roundw
          case rel => exact ⟨i + 1, by omega, by go_num, hid (HY.out (HD.out.2 (by omega))), hid (BW.out.trans ((below_drN W _).mono BW.out.size))⟩
          case measure => simp [intOf] <;> omega
    · obtain rfl : i = 25 := by omega
      go_wp2
      go_ret
      exact ⟨by rw [HP.out]; rfl, B1.out.trans (HB.out.mono B1.out.size)⟩
end Go.Proofs.YthoiikkjjaldnaaDoor

/- Plain law: the bits put one field after the other are the bits of one long number. -/
namespace Go.Proofs.YthoiikkjjaldnaaDoor
set_option linter.unusedVariables false
set_option linter.unusedSimpArgs false
set_option maxRecDepth 100000
open Go.RowKit

/-- The bits of the field i. -/
def pkN (i : Nat) : Nat := (pkB.getD i 0).toNat
/-- How many bits the first n fields have. -/
def pkA : Nat → Nat
  | 0 => 0
  | n + 1 => pkA n + pkN n
def pkX (ps : List Int) : Nat → Nat
  | 0 => 0
  | n + 1 => pkX ps n * 2 ^ pkN n + (ps.getD n 0).toNat
def pkV (ps : List Int) : Nat → Nat
  | 0 => 0
  | n + 1 => pkV ps n ||| (ps.getD n 0).toNat <<< (112 - pkA n - pkN n)
theorem pkA_end : pkA 25 = 106 := by decide
theorem pkA_le {n : Nat} (h : n ≤ 25) : pkA n ≤ 106 := by
  have : ∀ m, m ≤ 25 → pkA m ≤ 106 := by decide
  exact this n h
theorem pkN_le {n : Nat} (h : n < 25) : pkN n ≤ 6 ∧ pkB.getD n 0 = (pkN n : Nat) ∧ pkT.getD n 0 < 2 ^ pkN n := by
  have : ∀ m, m < 25 → pkN m ≤ 6 ∧ pkB.getD m 0 = (pkN m : Nat) ∧ pkT.getD m 0 < 2 ^ pkN m := by decide
  exact this n h
theorem pk_lt {ps : List Int} (h : pkTo ps 25 = true) {n : Nat} (hn : n < 25) : (ps.getD n 0).toNat < 2 ^ pkN n ∧ ps.getD n 0 = ((ps.getD n 0).toNat : Nat) := by
  have h1 := pkTo_at h hn
  have h2 := (pkN_le hn).2.2
  unfold pkOk at h1
  generalize ps.getD n 0 = x at *
  generalize pkT.getD n 0 = t at *
  have e : ((2 ^ pkN n : Nat) : Int) = 2 ^ pkN n := by simp
  rw [← e] at h2
  omega
theorem shl_or (a b n : Nat) : (a ||| b) <<< n = a <<< n ||| b <<< n := by
  apply Nat.eq_of_testBit_eq
  intro i
  simp only [Nat.testBit_or, Nat.testBit_shiftLeft]
  cases decide (i ≥ n) <;> simp
theorem pkV_eq {ps : List Int} (h : pkTo ps 25 = true) : ∀ n, n ≤ 25 → pkV ps n = pkX ps n <<< (112 - pkA n)
  | 0, _ => by simp [pkV, pkX]
  | n + 1, hn => by
    have ih := pkV_eq h n (by omega)
    have hp := (pk_lt h (n := n) (by omega)).1
    have ha := pkA_le (n := n + 1) hn
    simp only [pkA] at ha
    simp only [pkV, pkX, pkA]
    rw [ih, ← Nat.shiftLeft_eq, Nat.shiftLeft_add_eq_or_of_lt hp, shl_or, ← Nat.shiftLeft_add, show pkN n + (112 - (pkA n + pkN n)) = 112 - pkA n by omega, show 112 - pkA n - pkN n = 112 - (pkA n + pkN n) by omega]
theorem pkX_lt {ps : List Int} (h : pkTo ps 25 = true) : ∀ n, n ≤ 25 → pkX ps n < 2 ^ pkA n
  | 0, _ => by simp [pkX, pkA]
  | n + 1, hn => by
    have ih := pkX_lt h n (by omega)
    have hp := (pk_lt h (n := n) (by omega)).1
    simp only [pkX, pkA]
    rw [Nat.pow_add]
    have h1 : (pkX ps n + 1) * 2 ^ pkN n ≤ 2 ^ pkA n * 2 ^ pkN n := Nat.mul_le_mul_right _ ih
    rw [Nat.add_mul, Nat.one_mul] at h1
    omega
/-- The parity as a bit. -/
def pkQ (ps : List Int) : Nat := (parB (ps.getD 0 0) + parB (ps.getD 9 0) + parB (ps.getD 17 0)) % 2
theorem pkQ_eq (ps : List Int) : pkPar ps = (pkQ ps : Nat) := rfl
/-- The 112 bits. -/
def pkW (ps : List Int) : Nat := pkV ps 25 ||| pkQ ps <<< 5
theorem pkW_eq {ps : List Int} (h : pkTo ps 25 = true) : pkW ps = (pkX ps 25 * 2 + pkQ ps) * 2 ^ 5 := by
  have hq : pkQ ps < 2 ^ 1 := Nat.mod_lt _ (by decide)
  have e : pkX ps 25 * 2 + pkQ ps = pkX ps 25 <<< 1 ||| pkQ ps := by rw [← Nat.shiftLeft_add_eq_or_of_lt hq, Nat.shiftLeft_eq]
  unfold pkW
  rw [pkV_eq h 25 (by omega), pkA_end, e, ← Nat.shiftLeft_eq, shl_or, ← Nat.shiftLeft_add]
theorem pkW_lt {ps : List Int} (h : pkTo ps 25 = true) : pkW ps < 2 ^ 112 := by
  have h1 := pkX_lt h 25 (by omega)
  rw [pkA_end] at h1
  have hq : pkQ ps < 2 := Nat.mod_lt _ (by decide)
  rw [pkW_eq h]
  omega
theorem digL_byts (V : Nat) : Byts (digL V) := fun i => by
  rw [List.getD_eq_getElem?_getD]
  by_cases h : i < 14
  · rw [digL_get V h]
    have := digE_lt V (8 * (13 - i))
    simp only [Option.getD_some]
    omega
  · rw [List.getElem?_eq_none (by rw [digL_len]; omega)]
    simp
/-- A packet's bytes. -/
def pkBytes (ps : List Int) : List Int := if pkTo ps 25 = true then digL (pkW ps) ++ [chk (digL (pkW ps))] else []
def pkErr (ps : List Int) : Int := if pkTo ps 25 = true then 0 else 2
end Go.Proofs.YthoiikkjjaldnaaDoor

/- Plain law: the bits of a long number taken one field after the other. -/
namespace Go.Proofs.YthoiikkjjaldnaaDoor
set_option linter.unusedVariables false
set_option linter.unusedSimpArgs false
set_option maxRecDepth 100000
open Go.RowKit

/-- The number of the first k bytes. -/
def nb (xs : List Int) : Nat → Nat
  | 0 => 0
  | k + 1 => nb xs k * 256 + (xs.getD k 0).toNat
theorem nb_div {xs : List Int} (hx : Byts xs) (k d : Nat) : nb xs (k + d) / 2 ^ (8 * d) = nb xs k := by
  induction d with
  | zero => simp
  | succ d ih =>
    have h := hx (k + d)
    rw [show 8 * (d + 1) = 8 + 8 * d by omega, Nat.pow_add, ← Nat.div_div_eq_div_mul, show k + (d + 1) = (k + d) + 1 by omega]
    simp only [nb]
    rw [show (nb xs (k + d) * 256 + (xs.getD (k + d) 0).toNat) / 2 ^ 8 = nb xs (k + d) by
      have h3 : (2 : Nat) ^ 8 = 256 := rfl
      rw [h3]
      omega, ih]
theorem nb_dig {xs : List Int} (hx : Byts xs) {j : Nat} (hj : j < 14) : digE (nb xs 14) (8 * (13 - j)) = (xs.getD j 0).toNat := by
  have h := nb_div hx (j + 1) (13 - j)
  rw [show j + 1 + (13 - j) = 14 by omega] at h
  unfold digE
  rw [h]
  have h2 := hx j
  simp only [nb]
  omega
/-- n bits from place a on. -/
def gt (V a n : Nat) : Nat := V >>> (112 - a - n) % 2 ^ n
theorem gt_lt (V a n : Nat) : gt V a n < 2 ^ n := Nat.mod_lt _ (Nat.two_pow_pos n)
theorem gt_bit {V e q : Nat} (hq : q < 8) : digE V e / 2 ^ q % 2 = V >>> (e + q) % 2 := by
  apply Nat.eq_of_testBit_eq
  intro i
  rw [show (2 : Nat) = 2 ^ 1 from rfl, Nat.testBit_mod_two_pow, Nat.testBit_mod_two_pow, Nat.testBit_div_two_pow, digE_bit, Nat.testBit_shiftRight]
  by_cases h : i < 1
  · have e1 : i = 0 := by omega
    subst e1
    simp [hq]
  · simp [h]
theorem gt_step (y m : Nat) : (y / 2 % 2 ^ m) * 2 + y % 2 = y % 2 ^ (m + 1) := by
  rw [Nat.pow_succ, Nat.mul_comm (2 ^ m) 2, Nat.mod_mul]
  omega
/-- The field i. -/
def uF (V i : Nat) : Nat := gt V (pkA i) (pkN i)
/-- The numbers, the first n of them taken. -/
def uL (V n : Nat) : List Int := (List.range 25).map (fun i => if i < n then (uF V i : Int) else 0)
theorem uL_len (V n : Nat) : (uL V n).length = 25 := by simp [uL]
theorem uL_zero (V : Nat) : uL V 0 = List.replicate 25 0 := by
  refine List.ext_getElem? fun j => ?_
  by_cases hj : j < 25
  · rw [List.getElem?_replicate, if_pos hj]
    unfold uL
    simp [hj]
  · rw [List.getElem?_eq_none (by rw [uL_len]; omega), List.getElem?_eq_none (by rw [List.length_replicate]; omega)]
theorem uL_set (V : Nat) {i : Nat} (hi : i < 25) : (uL V i).set i (uF V i : Nat) = uL V (i + 1) := by
  refine List.ext_getElem? fun j => ?_
  by_cases hj : j < 25
  · rw [List.getElem?_set, uL_len]
    unfold uL
    simp only [List.getElem?_map, List.getElem?_range hj, Option.map_some]
    by_cases e : i = j
    · subst e
      rw [if_pos rfl, if_pos hi, if_pos (by omega)]
    · rw [if_neg e]
      congr 1
      by_cases h : j < i
      · rw [if_pos h, if_pos (by omega)]
      · rw [if_neg h, if_neg (by omega)]
  · rw [List.getElem?_eq_none (by rw [List.length_set, uL_len]; omega), List.getElem?_eq_none (by rw [uL_len]; omega)]
theorem uL_64 (V n : Nat) : W64 (uL V n) := by
  intro x hx
  unfold uL at hx
  obtain ⟨i, hi, rfl⟩ := List.mem_map.1 hx
  have hi25 : i < 25 := by simpa using hi
  have h1 := gt_lt V (pkA i) (pkN i)
  have h2 := (pkN_le hi25).1
  have h3 : 2 ^ pkN i ≤ 2 ^ 6 := Nat.pow_le_pow_right (by decide) h2
  unfold uF
  split <;> omega
/-- What Unpack answers. -/
def unV (xs : List Int) : Nat := nb xs 14
def unE (xs : List Int) : Int :=
  if xs.length ≠ 15 then 1 else if chk (xs.take 14) ≠ xs.getD 14 0 then 5 else if unV xs % 32 ≠ 0 then 3 else if pkTo (uL (unV xs) 25) 25 = false then 2 else if pkPar (uL (unV xs) 25) ≠ (unV xs / 32 % 2 : Nat) then 3 else 0
def unL (xs : List Int) : List Int := if unE xs = 0 then uL (unV xs) 25 else List.replicate 25 0
theorem unL_len (xs : List Int) : (unL xs).length = 25 := by
  unfold unL
  split
  · exact uL_len _ _
  · rfl
theorem gt_par (V : Nat) : gt V 106 1 = V / 32 % 2 := by
  unfold gt
  rw [Nat.shiftRight_eq_div_pow]
end Go.Proofs.YthoiikkjjaldnaaDoor

/- Plain facts on the places that go best. -/
namespace Go.Proofs.YthoiikkjjaldnaaDoor
set_option linter.unusedVariables false
set_option linter.unusedSimpArgs false
set_option maxRecDepth 100000
open Go.RowKit

def Z4 : List Int := [0, 0, 0, 0]
/-- What a search remembers: the places, whether there are none yet, their sums. -/
structure Bst where
  at_ : List Int
  first : Bool
  c : Int
  e : Int
def bst0 : Bst := ⟨Z4, true, 0, 0⟩
def bstS (d ring : List Int) (s : Bst) (x : List Int) : Bst := if s.first || betterB (scC d x 4) (scE d ring x) s.c s.e then ⟨x, false, scC d x 4, scE d ring x⟩ else s
def bestL (d ring : List Int) (l : List (List Int)) : Bst := l.foldl (bstS d ring) bst0
theorem ix_Z4 : Ix Z4 := ⟨rfl, by decide⟩
theorem bstS_ix {d ring x : List Int} {s : Bst} (h : Ix s.at_) (hx : Ix x) : Ix (bstS d ring s x).at_ := by
  unfold bstS
  split
  · exact hx
  · exact h
theorem bestL_ix {d ring : List Int} : ∀ {l : List (List Int)} {s : Bst}, Ix s.at_ → (∀ x ∈ l, Ix x) → Ix (l.foldl (bstS d ring) s).at_
  | [], _, h, _ => h
  | x :: l, s, h, hl => bestL_ix (l := l) (bstS_ix h (hl x (List.mem_cons_self ..))) fun y hy => hl y (List.mem_cons_of_mem _ hy)
theorem bstS_64 {d ring x : List Int} {s : Bst} (h : (-9223372036854775808 ≤ s.c ∧ s.c ≤ 9223372036854775807) ∧ -9223372036854775808 ≤ s.e ∧ s.e ≤ 9223372036854775807) : (-9223372036854775808 ≤ (bstS d ring s x).c ∧ (bstS d ring s x).c ≤ 9223372036854775807) ∧ -9223372036854775808 ≤ (bstS d ring s x).e ∧ (bstS d ring s x).e ≤ 9223372036854775807 := by
  unfold bstS
  split
  · have := scE_range d ring x
    exact ⟨scC_64 d x 4, by show -9223372036854775808 ≤ scE d ring x; omega, by show scE d ring x ≤ 9223372036854775807; omega⟩
  · exact h
theorem bestL_64 {d ring : List Int} : ∀ {l : List (List Int)} {s : Bst}, ((-9223372036854775808 ≤ s.c ∧ s.c ≤ 9223372036854775807) ∧ -9223372036854775808 ≤ s.e ∧ s.e ≤ 9223372036854775807) → ((-9223372036854775808 ≤ (l.foldl (bstS d ring) s).c ∧ (l.foldl (bstS d ring) s).c ≤ 9223372036854775807) ∧ -9223372036854775808 ≤ (l.foldl (bstS d ring) s).e ∧ (l.foldl (bstS d ring) s).e ≤ 9223372036854775807)
  | [], _, h => h
  | x :: l, s, h => bestL_64 (l := l) (bstS_64 h)
/-- The places of one track, the others staying. -/
def fewX (now : List Int) (t p : Nat) : List Int := now.set t (p : Int)
def fewL (now : List Int) (t n : Nat) : List (List Int) := (List.range n).map (fewX now t)
theorem fewL_snoc (now : List Int) (t n : Nat) : fewL now t (n + 1) = fewL now t n ++ [fewX now t n] := by unfold fewL; rw [List.range_succ, List.map_append]; rfl
theorem okIx_set {x : List Int} (h : okIx x = true) (t : Nat) {p : Int} (hp : 0 ≤ p ∧ p ≤ 9) : okIx (x.set t p) = true := by
  unfold okIx at *
  rw [List.all_eq_true] at *
  intro y hy
  rcases List.mem_or_eq_of_mem_set hy with h1 | h1
  · exact h y h1
  · subst h1; simpa using hp
theorem fewX_ix {now : List Int} (h : Ix now) {t p : Nat} (hp : p < 10) : Ix (fewX now t p) := ⟨by unfold fewX; rw [List.length_set]; exact h.1, okIx_set h.2 t (by omega)⟩
theorem fewL_ix {now : List Int} (h : Ix now) (t : Nat) {n : Nat} (hn : n ≤ 10) : ∀ x ∈ fewL now t n, Ix x := fun x hx => by
  unfold fewL at hx
  obtain ⟨k, hk, rfl⟩ := List.mem_map.1 hx
  exact fewX_ix h (by have := List.mem_range.1 hk; omega)
/-- Behind k tracks of Few. -/
def fewN (d ring : List Int) : Nat → List Int
  | 0 => Z4
  | k + 1 => (bestL d ring (fewL (fewN d ring k) (k % 4) 10)).at_
theorem fewN_ix (d ring : List Int) (k : Nat) : Ix (fewN d ring k) := by
  induction k with
  | zero => exact ix_Z4
  | succ k ih => exact bestL_ix ix_Z4 (fewL_ix ih _ (Nat.le_refl _))
/-- The bits of pulses' signs. -/
def sgnN (d x : List Int) : Nat → Nat
  | 0 => 0
  | t + 1 => if 0 ≤ d.getD (plc x t) 0 then sgnN d x t + 2 ^ t else sgnN d x t
theorem sgnN_lt (d x : List Int) (t : Nat) : sgnN d x t < 2 ^ t := by
  induction t with
  | zero => simp [sgnN]
  | succ t ih =>
    unfold sgnN
    rw [Nat.pow_succ]
    split <;> omega
def sgnB (d x : List Int) (t : Nat) : Int := (sgnN d x t : Nat)
def seErr (d ring : List Int) : Int := if d.length = 40 ∧ ring.length = 40 then (if d.all (fun x => decide (-1099511627776 ≤ x ∧ x ≤ 1099511627776)) then 0 else 2) else 1
def seX (d ring x : List Int) : List Int := if seErr d ring = 0 then x else Z4
def seS (d ring x : List Int) : Int := if seErr d ring = 0 then sgnB d x 4 else 0
end Go.Proofs.YthoiikkjjaldnaaDoor
