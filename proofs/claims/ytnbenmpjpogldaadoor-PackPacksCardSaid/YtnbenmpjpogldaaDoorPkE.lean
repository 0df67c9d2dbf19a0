/- The walks of an Int's bytes. -/
import Derived.Test.YtnbenmpjpogldaaDoorPkD
import Derived.Test.YtnbenmpjpogldaaDoorBigSmall
import Derived.Test.YtnbenmpjpogldaaDoorBigShift
import Derived.Test.YtnbenmpjpogldaaDoorBigInt2
import Derived.Laws.CopyOwn
namespace Go.Proofs.YtnbenmpjpogldaaDoor
set_option linter.unusedVariables false
set_option linter.unusedSimpArgs false
set_option maxRecDepth 100000
open Go.RowKit

theorem word_at {ws : List Nat} (hok : wok ws) {k : Nat} (hk : k < ws.length) : ws.getD k 0 = wv ws / 2 ^ (32 * k) % 2 ^ 32 := by
  have h1 := wv_drop ws hok k (by omega)
  have h2 : ws.drop k = ws.getD k 0 :: ws.drop (k + 1) := by
    rw [List.drop_eq_getElem_cons hk, List.getD_eq_getElem?_getD, List.getElem?_eq_getElem hk]
    rfl
  have h3 := wok_getD hok k
  rw [h2] at h1
  simp only [wv] at h1
  have e : (4294967296 : Nat) ^ k = 2 ^ (32 * k) := by rw [Nat.pow_mul]
  rw [← e, ← h1, show (2 : Nat) ^ 32 = 4294967296 from rfl]
  omega
/-- A byte of a word is a byte of the number. -/
theorem word_byte (X i : Nat) : X / 2 ^ (32 * (i / 4)) % 2 ^ 32 / 2 ^ (8 * (i % 4)) % 256 = digE X (8 * i) := by
  apply Nat.eq_of_testBit_eq
  intro q
  rw [digE_bit, show 256 = 2 ^ 8 from rfl, Nat.testBit_mod_two_pow, Nat.testBit_div_two_pow, Nat.testBit_mod_two_pow, Nat.testBit_div_two_pow]
  by_cases hq : q < 8
  · have h1 : q + 8 * (i % 4) < 32 := by omega
    have h2 : q + 8 * (i % 4) + 32 * (i / 4) = 8 * i + q := by omega
    rw [h2]
    simp [hq, h1]
  · simp [hq]
/-- The n bytes of a number, the least i of them laid. -/
def byN (X n i : Nat) : List Int := (List.range n).map (fun j => if n - 1 - j < i then (digE X (8 * (n - 1 - j)) : Int) else 0)
theorem byN_len (X n i : Nat) : (byN X n i).length = n := by simp [byN]
theorem byN_zero (X n : Nat) : byN X n 0 = List.replicate n 0 := by
  refine List.ext_getElem? fun j => ?_
  unfold byN
  by_cases hj : j < n
  · simp [hj]
  · simp [hj]
theorem byN_set (X n : Nat) {i : Nat} (hi : i < n) : (byN X n i).set (n - 1 - i) (digE X (8 * i) : Nat) = byN X n (i + 1) := by
  refine List.ext_getElem? fun j => ?_
  by_cases hj : j < n
  · rw [List.getElem?_set, byN_len]
    unfold byN
    simp only [List.getElem?_map, List.getElem?_range hj, Option.map_some]
    by_cases e : n - 1 - i = j
    · rw [if_pos e, if_pos (by omega), if_pos (by omega), show n - 1 - j = i by omega]
    · rw [if_neg e]
      congr 1
      by_cases h : n - 1 - j < i
      · rw [if_pos h, if_pos (by omega)]
      · rw [if_neg h, if_neg (by omega)]
  · rw [List.getElem?_eq_none (by rw [List.length_set, byN_len]; omega), List.getElem?_eq_none (by rw [byN_len]; omega)]
/-- All fourteen bytes: those of a shorter number stand at the end. -/
theorem byN_all {X n : Nat} (hn : n ≤ 14) (hX : X < 2 ^ (8 * n)) : List.replicate (14 - n) 0 ++ byN X n n = digL X := by
  refine List.ext_getElem? fun j => ?_
  by_cases hj : j < 14
  · rw [digL_get X hj]
    by_cases h : j < 14 - n
    · rw [List.getElem?_append_left (by simp; exact h), List.getElem?_replicate, if_pos h]
      have : X < 2 ^ (8 * (13 - j)) := Nat.lt_of_lt_of_le hX (Nat.pow_le_pow_right (by decide) (by omega))
      unfold digE
      rw [Nat.div_eq_of_lt this]
      rfl
    · rw [List.getElem?_append_right (by simp; omega), List.length_replicate]
      unfold byN
      have hr : j - (14 - n) < n := by omega
      simp only [List.getElem?_map, List.getElem?_range hr, Option.map_some]
      rw [if_pos (by omega), show n - 1 - (j - (14 - n)) = 13 - j by omega]
  · rw [List.getElem?_eq_none (by simp [byN_len]; omega), List.getElem?_eq_none (by rw [digL_len]; omega)]
theorem OwnB.set_ {w : World} {base c g : Nat} {xs : List Int} (h : OwnB w base (some ⟨g, 0, none⟩) c xs) (k : Nat) (x : Int) : OwnB (w.setCell ⟨g, k, none⟩ (.int .u8 x)) base (some ⟨g, 0, none⟩) c (xs.set k x) := by
  have h1 := World.ownsRow.stored (g := g) (cap := c) h k (.int .u8 x)
  unfold OwnB
  rw [List.length_set]
  have e : bts (xs.set k x) = (bts xs).set k (.int .u8 x) := by simp [bts, List.map_set]
  rw [e]; exact h1.1
theorem OwnB.cell {w : World} {base c g : Nat} {xs : List Int} (h : OwnB w base (some ⟨g, 0, none⟩) c xs) (k : Nat) (hk : k < xs.length) : w.cell? ⟨g, k, none⟩ = some (.int .u8 (xs.getD k 0)) := by
  have h1 := World.ownsRow.cellAt (g := g) (cap := c) h k (by omega)
  rw [h1]; exact bts_get xs k hk
theorem OwnB.frozen {w : World} {base c g : Nat} {xs : List Int} (h : OwnB w base (some ⟨g, 0, none⟩) c xs) (k : Nat) : w.frozen? ⟨g, k, none⟩ = false := World.ownsRow.frozenAt h k
/-- How many bytes a number has. -/
def byC (X : Nat) : Nat := (bitlen X + 7) / 8
theorem byC_lt (X : Nat) : X < 2 ^ (8 * byC X) := Nat.lt_of_lt_of_le (bitlen_lt X) (Nat.pow_le_pow_right (by decide) (by unfold byC; omega))
theorem byC_le {X : Nat} (h : X < 2 ^ 112) : byC X ≤ 14 := by
  have := bitlen_le_of_lt h
  unfold byC
  omega

set_option maxHeartbeats 4000000 in
theorem Bytes_any (w : World) (c X : Nat) (hc : IntAt w c (X : Nat)) (hX : X < 2 ^ 112) :
    Calls Tryd.prog 35 #[.pointer (some ⟨c, 0, none⟩)] w fun e w' => ∃ g, e = .returned (.slice (some ⟨g, 0, none⟩) (byC X) (byC X)) ∧ w.heap.size ≤ g ∧ OwnB w' w.heap.size (some ⟨g, 0, none⟩) (byC X) (byN X (byC X) (byC X)) ∧ Below w.heap.size w w' := by
  have hs : Sm (X : Int).natAbs := sm_of_lt (by show X < _; exact Nat.lt_trans hX (by decide))
  obtain ⟨v, _, hc1, hv⟩ := hc.cells
  have hv : Nm w v X := hv
  have hs : Sm X := hs
  obtain ⟨ao, len, cap, ws, rfl, hr, ht, hwv, hl⟩ := hv.len hs
  have KL := hid (length_any w (.slice ao len cap) X hv hs)
  have hb1 : bitlen X ≤ 32 * len := by
    have h1 := wv_lt hr.ok
    rw [hwv, hr.len] at h1
    have e : (4294967296 : Nat) ^ len = 2 ^ (32 * len) := by rw [Nat.pow_mul]
    rw [e] at h1
    exact bitlen_le_of_lt h1
  have hb2 : bitlen X ≤ 112 := bitlen_le_of_lt hX
  obtain ⟨n, hn⟩ : ∃ n, n = byC X := ⟨_, rfl⟩
  rw [← hn]
  unfold byC at hn
  generalize bitlen X = bl at *
  have hw0 : IntKind.i64.wrap ((bl : Int) + 7) = (bl : Int) + 7 := by rw [IntKind.wrap_i64]; omega
  have hq0 : ((bl : Int) + 7) / 8 = (n : Nat) := by omega
  have HC := hid hc.lt
  have H1 := hid hc1
  have HR := hid hr
  have HWV := hid hwv
  have hn14 : n ≤ 14 := by omega
  have HNN := hid hn
  clear hv ht hc hs hn hwv hX
  go_enter Tryd.func35, Tryd.ntmps35
  go_wp2_with (first
    | (go_at_call 44; (with_reducible refine KL.out.mono ?_); rintro e w' ⟨rfl, rfl⟩)
    | (at_make; refine wpList_makeB rfl _ _ rfl .i64 .i64 n (by first | rfl | (show Value.int .i64 (((bl : Int) + 7) / 8) = _; rw [hq0])) (by first | rfl | (show Value.int .i64 (((bl : Int) + 7) / 8) = _; rw [hq0])) w.heap.size (by omega) (Nat.le_refl _) ?_; intro w1 hO hG; have O1 := hid (show OwnB w1 w.heap.size (some ⟨w.heap.size, 0, none⟩) n (byN X n 0) by rw [byN_zero]; exact hO); have B1 := hid ((Below.refl w.heap.size w).grown hG (Nat.le_refl _) (by simp)); clear hO hG))
  try rw [hq0]
  clear hw0 hq0 hc1
  go_loopw [5] (fun iv wr => ∃ i : Nat, i ≤ n ∧ iv = .int .i64 i ∧ Hid (OwnB wr w.heap.size (some ⟨w.heap.size, 0, none⟩) n (byN X n i)) ∧ Hid (Below w.heap.size w wr)) (fun iv _ => n - (intOf iv).toNat)
  case atStart => exact ⟨0, by omega, rfl, O1, B1⟩
  case round =>
    clear O1 B1
    obtain ⟨i, hi, rfl, HO, HB⟩ := hrel
    by_cases hlt : i < n
    · have hil : i / 4 < len := by have := HNN.out; omega
      obtain ⟨g, off, rfl⟩ := HR.out.addr (by omega)
      have rr := HR.out.below HB.out (Nat.le_refl _)
      obtain ⟨k, hk⟩ : ∃ k, k = i / 4 := ⟨_, rfl⟩
      obtain ⟨s, hs⟩ : ∃ s, s = 8 * (i % 4) := ⟨_, rfl⟩
      obtain ⟨J, hJ⟩ : ∃ J, J = n - 1 - i := ⟨_, rfl⟩
      have cw := rr.cell k (by omega)
      have ca : wr.cell? ⟨c, 1, none⟩ = some (.slice (some ⟨g, off, none⟩) len cap) := (HB.out.cell (p := ⟨c, 1, none⟩) HC.out).trans H1.out
      have wx := word_at HR.out.ok (k := k) (by rw [HR.out.len]; omega)
      rw [HWV.out] at wx
      have wl := wok_getD HR.out.ok k
      have DX := word_byte X i
      rw [← hk, ← hs] at DX
      rw [← wx] at DX
      have HSet := hid (byN_set X n hlt)
      rw [← hJ] at HSet
      have co := HO.out.cell J (by rw [byN_len]; omega)
      have fo := HO.out.frozen J
      generalize ws.getD k 0 = wk at *
      obtain ⟨d, hd⟩ : ∃ d, d = digE X (8 * i) := ⟨_, rfl⟩
      rw [← hd] at DX HSet
      obtain ⟨y, hy⟩ : ∃ y, y = wk / 2 ^ s := ⟨_, rfl⟩
      rw [← hy] at DX
      have hyd : (wk : Int) / 2 ^ s = (y : Nat) := by rw [hy]; simp
      have hd8 : IntKind.u8.wrap ((y : Nat) : Int) = (d : Nat) := by rw [IntKind.wrap_u8]; omega
      have hw1 : IntKind.i64.wrap ((n : Int) - 1) = (n : Int) - 1 := by rw [IntKind.wrap_i64]; omega
      have hw2 : IntKind.i64.wrap ((n : Int) - 1 - i) = (J : Nat) := by rw [IntKind.wrap_i64]; omega
      have hk4 : (i : Int) / 4 = (k : Nat) := by omega
      have hiu : IntKind.u64.wrap (i : Int) = i := by rw [IntKind.wrap_u64]; omega
      have hms : IntKind.u64.wrap (8 * ((i : Int) % 4)) = (s : Nat) := by rw [IntKind.wrap_u64]; omega
      have s0 : (0 : Int) ≤ s := by omega
      have s64 : (s : Int) < 64 := by omega
      have s32 : (s : Int) < 32 := by omega
      have J0 : (0 : Int) ≤ J := by omega
      have Jn : (J : Int) < n := by omega
      have k0 : (0 : Int) ≤ k := by omega
      have kl : (k : Int) < len := by omega
      have NO := hid (show OwnB (wr.setCell ⟨w.heap.size, J, none⟩ (.int .u8 (d : Nat))) w.heap.size (some ⟨w.heap.size, 0, none⟩) n (byN X n (i + 1)) from by rw [← HSet.out]; exact HO.out.set_ J _)
      have NB := hid (HB.out.setCell (p := ⟨w.heap.size, J, none⟩) (Nat.le_refl _) (.int .u8 (d : Nat)))
      clear hk hs hJ hd hy wx wl rr
      go_wp2
      go_roundw
      case rel => exact ⟨i + 1, by omega, by go_num, NO, NB⟩
      case measure => simp [intOf] <;> omega
    · obtain rfl : i = n := by omega
      go_wp2
      go_ret
      exact ⟨_, rfl, Nat.le_refl _, HO.out, HB.out⟩
end Go.Proofs.YtnbenmpjpogldaaDoor
