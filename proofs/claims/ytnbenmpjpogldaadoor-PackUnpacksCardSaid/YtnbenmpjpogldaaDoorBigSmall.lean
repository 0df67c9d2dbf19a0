/- The walks of words, plain, length. -/
import Derived.Test.YtnbenmpjpogldaaDoorBigCmp
namespace Go.Proofs.YtnbenmpjpogldaaDoor
set_option linter.unusedVariables false
set_option linter.unusedSimpArgs false
set_option maxRecDepth 100000
open Go.RowKit

set_option maxHeartbeats 1000000 in
theorem words_any (w : World) (x : Int) (h0 : 0 ≤ x) (h1 : x ≤ 18446744073709551615) :
    Calls Tryd.prog 37 #[.int .u64 x] w (GivesNm w x.toNat) := by
  obtain ⟨n, rfl⟩ := Int.eq_ofNat_of_zero_le h0
  have hO := World.ownsRow_lit (base := w.heap.size) (e := 73) (size := 1) w #[.int .u32 (((n % 4294967296 : Nat)) : Int), .int .u32 ((n / 4294967296 : Nat) : Int)] 2 (Nat.le_refl _) (by unfold maxLen; omega) rfl
  have hok : wok [n % 4294967296, n / 4294967296] := by
    intro y hy
    simp only [List.mem_cons, List.not_mem_nil, or_false] at hy
    omega
  have hv : wv [n % 4294967296, n / 4294967296] = n := by simp only [wv]; omega
  have H := hid (And.intro hO (And.intro hok hv))
  clear hO hok hv
  go_enter Tryd.func37, Tryd.ntmps37
  go_wp2_with fail
  rw [show ((n : Int) % 4294967296) = ((n % 4294967296 : Nat) : Int) from by omega, show ((n : Int) / 4294967296) = ((n / 4294967296 : Nat) : Int) from by omega]
  refine (trim_own _ w.heap.size _ 2 [n % 4294967296, n / 4294967296] H.out.1 H.out.2.1).mono ?_
  rintro e w' ⟨⟨v', rfl, hnm⟩, rfl⟩
  rw [H.out.2.2] at hnm
  go_wp2
  go_ret
  exact ⟨⟨v', rfl, hnm⟩, (Below.refl _ _).alloc (Nat.le_refl _) _⟩

def bitlen (n : Nat) : Nat := if n = 0 then 0 else Nat.log2 n + 1

theorem bitlen_half (x : Nat) (h : x ≠ 0) : bitlen x = bitlen (x / 2) + 1 := by
  unfold bitlen
  rw [if_neg h]
  rw [Nat.log2_def]
  by_cases h2 : 2 ≤ x
  · rw [if_pos h2, if_neg (by omega)]
  · rw [if_neg h2, if_pos (by omega)]

theorem bitlen_lt (n : Nat) : n < 2 ^ bitlen n := by
  unfold bitlen
  split
  · subst n; decide
  · exact Nat.lt_log2_self

theorem bitlen_le_of_lt {n k : Nat} (h : n < 2 ^ k) : bitlen n ≤ k := by
  unfold bitlen
  split
  · omega
  · rename_i h0
    have := (Nat.log2_lt h0).2 h
    omega

theorem bitlen_ge {n : Nat} (h : n ≠ 0) : 2 ^ (bitlen n - 1) ≤ n := by
  unfold bitlen
  rw [if_neg h]
  exact Nat.log2_self_le h

theorem bitlen_unique {n k : Nat} (h1 : 2 ^ k ≤ n) (h2 : n < 2 ^ (k + 1)) : bitlen n = k + 1 := by
  have h0 : n ≠ 0 := by have := Nat.two_pow_pos k; omega
  have h3 := bitlen_le_of_lt h2
  by_cases hc : bitlen n ≤ k
  · have h4 := bitlen_lt n
    have := Nat.pow_le_pow_right (show 0 < 2 by omega) hc
    omega
  · omega

theorem bitlen_wv {l : List Nat} {n : Nat} (hok : wok l) (ht : tight l) (hl : l.length = n + 1) : bitlen (wv l) = n * 32 + bitlen (l.getD n 0) := by
  have hx := ht n hl
  have h1 : l = l.take n ++ [l.getD n 0] := by
    rw [← take_succ_getD l n (by omega), List.take_of_length_le (by omega)]
  have h2 : wv l = wv (l.take n) + 4294967296 ^ n * l.getD n 0 := by
    conv => lhs; rw [h1]
    rw [wv_snoc, List.length_take, Nat.min_eq_left (by omega)]
  have h3 := wv_lt (wok_take hok n)
  rw [List.length_take, Nat.min_eq_left (by omega)] at h3
  have hp : (4294967296 : Nat) ^ n = 2 ^ (n * 32) := by rw [show 4294967296 = 2 ^ 32 from rfl, ← Nat.pow_mul, Nat.mul_comm]
  generalize l.getD n 0 = x at *
  obtain ⟨k, hk⟩ : ∃ k, bitlen x = k + 1 := ⟨bitlen x - 1, by unfold bitlen; rw [if_neg hx]; omega⟩
  have h4 := bitlen_ge hx
  have h5 := bitlen_lt x
  rw [hk] at h4 h5
  simp only [Nat.add_sub_cancel] at h4
  rw [hk, show n * 32 + (k + 1) = (n * 32 + k) + 1 from by omega]
  refine bitlen_unique ?_ ?_
  · rw [h2, Nat.pow_add, ← hp]
    have := Nat.mul_le_mul_left (4294967296 ^ n) h4
    omega
  · rw [h2, show n * 32 + k + 1 = n * 32 + (k + 1) from by omega, Nat.pow_add, ← hp]
    have := Nat.mul_le_mul_left (4294967296 ^ n) (show x + 1 ≤ 2 ^ (k + 1) from h5)
    rw [Nat.mul_add] at this
    omega

set_option maxHeartbeats 1000000 in
theorem length_any (w : World) (v : Value) (n : Nat) (h : Nm w v n) (hs : Sm n) :
    Calls Tryd.prog 44 #[v] w fun e w' => e = .returned (.int .i64 (bitlen n : Nat)) ∧ w = w' := by
  obtain ⟨ao, len, cap, ws, rfl, hr, ht, rfl, hl⟩ := h.len hs
  cases len with
  | zero =>
    obtain rfl : ws = [] := List.length_eq_zero_iff.1 hr.len
    clear hr ht hs h
    go_enter Tryd.func44, Tryd.ntmps44
    go_wp2
    go_ret
    exact ⟨rfl, rfl⟩
  | succ m =>
    have HB := hid (bitlen_wv hr.ok ht hr.len)
    obtain ⟨g, off, rfl⟩ := hr.addr (by omega)
    have hc := hr.cell m (by omega)
    have hx := wok_getD hr.ok m
    generalize hy : ws.getD m 0 = y at hc hx
    rw [hy] at HB
    have hy0 : bitlen y ≤ 32 := bitlen_le_of_lt hx
    clear hr ht hs hy h
    go_enter Tryd.func44, Tryd.ntmps44
    go_wp2
    go_loop [3, 4] (fun nv tv => ∃ k x : Nat, nv = .int .i64 k ∧ tv = .int .u32 x ∧ x < 4294967296 ∧ k + bitlen x = bitlen y) (fun _ tv => (intOf tv).toNat)
    case atStart => exact ⟨0, y, rfl, rfl, hx, by omega⟩
    case round =>
      obtain ⟨k, x, rfl, rfl, hxl, hkx⟩ := hrel
      have HK := hid hkx
      have hk32 : k ≤ 32 := by omega
      clear hkx
      by_cases hx0 : x = 0
      · subst hx0
        go_wp2
        go_ret
        refine ⟨?_, rfl⟩
        have h1 := HK.out
        have h2 : bitlen 0 = 0 := rfl
        rw [HB.out, ← h1, h2]
        simp
      · have hne : ((x : Int) != 0) = true := by rw [bne_iff_ne]; omega
        go_wp2
        go_round
        case rel =>
          refine ⟨k + 1, x / 2, by simp, by simp, by omega, ?_⟩
          have h1 := HK.out
          rw [bitlen_half x hx0] at h1
          omega
        case measure => simp [intOf] <;> omega
end Go.Proofs.YtnbenmpjpogldaaDoor
