/- Texts that the law rests on, laid together: BigCmp, BigSmall, BigShift. -/
import Derived.Test.YthoiikkjjaldnaaDoorZ7a1a29
/- The walks of cmp, words, plain, length on lists of words. -/
namespace Go.Proofs.YthoiikkjjaldnaaDoor
set_option linter.unusedVariables false
set_option linter.unusedSimpArgs false
set_option maxRecDepth 100000
open Go.RowKit

end Go.Proofs.YthoiikkjjaldnaaDoor

/- The walks of words, plain, length. -/
namespace Go.Proofs.YthoiikkjjaldnaaDoor
set_option linter.unusedVariables false
set_option linter.unusedSimpArgs false
set_option maxRecDepth 100000
open Go.RowKit

def bitlen (n : Nat) : Nat := if n = 0 then 0 else Nat.log2 n + 1

theorem bitlen_lt (n : Nat) : n < 2 ^ bitlen n := by
  unfold bitlen
  split
  · subst n; decide
  · exact Nat.lt_log2_self

theorem bitlen_le_of_lt {n k : Nat} (h : n < 2 ^ k) : bitlen n ≤ k := by
  unfold bitlen
  split
  · omega
  · rename_i h0
    have := (Nat.log2_lt h0).2 h
    omega

theorem bitlen_unique {n k : Nat} (h1 : 2 ^ k ≤ n) (h2 : n < 2 ^ (k + 1)) : bitlen n = k + 1 := by
  have h0 : n ≠ 0 := by have := Nat.two_pow_pos k; omega
  have h3 := bitlen_le_of_lt h2
  by_cases hc : bitlen n ≤ k
  · have h4 := bitlen_lt n
    have := Nat.pow_le_pow_right (show 0 < 2 by omega) hc
    omega
  · omega

end Go.Proofs.YthoiikkjjaldnaaDoor

/- The walks of left and right on lists of words. -/
namespace Go.Proofs.YthoiikkjjaldnaaDoor
set_option linter.unusedVariables false
set_option linter.unusedSimpArgs false
set_option maxRecDepth 100000
open Go.RowKit

structure LeftInv (w wr : World) (q s m : Nat) (ua : List Nat) (k : Nat) (rs : List Nat) : Prop where
  len : rs.length = m
  ok : wok rs
  val : wv rs = 4294967296 ^ q * (2 ^ s * wv (ua.take k))
  top : ∀ j, k + q < j → rs.getD j 0 = 0
  carry : rs.getD (k + q) 0 < 2 ^ s
  own : wr.ownsRow w.heap.size 176 1 (.slice (some ⟨w.heap.size, 0, none⟩) m m) m (W32 rs)
  bel : Below w.heap.size w wr

theorem getD_set (l : List Nat) (i j x : Nat) (h : i < l.length) : (l.set i x).getD j 0 = if i = j then x else l.getD j 0 := by
  rw [List.getD_eq_getElem?_getD, List.getElem?_set]
  by_cases hij : i = j
  · subst hij; simp [h]
  · rw [if_neg hij, if_neg hij, List.getD_eq_getElem?_getD]

theorem LeftInv.step {w wr : World} {q s m : Nat} {ua : List Nat} {k : Nat} {rs : List Nat} (h : LeftInv w wr q s m ua k rs) (hm : k + q + 1 < m) (hs : s < 32)
    {xa c : Nat} (hx : xa < 4294967296) (hxa : ua.getD k 0 = xa) (hc : rs.getD (k + q) 0 = c) :
    LeftInv w ((wr.setCell ⟨w.heap.size, k + q, none⟩ (.int .u32 ((c + xa * 2 ^ s % 4294967296 : Nat) : Int))).setCell ⟨w.heap.size, k + q + 1, none⟩ (.int .u32 ((xa * 2 ^ s / 4294967296 : Nat) : Int))) q s m ua (k + 1)
      ((rs.set (k + q) (c + xa * 2 ^ s % 4294967296)).set (k + q + 1) (xa * 2 ^ s / 4294967296)) := by
  have hl := h.len
  have hcs := h.carry
  rw [hc] at hcs
  obtain ⟨t, ht⟩ : ∃ t, 32 = s + t := ⟨32 - s, by omega⟩
  have hP : (4294967296 : Nat) = 2 ^ s * 2 ^ t := by rw [← Nat.pow_add, ← ht]
  have hmod : xa * 2 ^ s % 4294967296 = 2 ^ s * (xa % 2 ^ t) := by
    rw [hP, Nat.mul_comm xa, Nat.mul_mod_mul_left]
  have hdiv : xa * 2 ^ s / 4294967296 < 2 ^ s := by
    rw [Nat.div_lt_iff_lt_mul (by decide), Nat.mul_comm]
    exact Nat.mul_lt_mul_of_pos_left hx (Nat.two_pow_pos s)
  have hc1 : c + xa * 2 ^ s % 4294967296 < 4294967296 := by
    rw [hmod]
    have h1 : xa % 2 ^ t < 2 ^ t := Nat.mod_lt _ (Nat.two_pow_pos t)
    have h2 := Nat.mul_le_mul_left (2 ^ s) (show xa % 2 ^ t + 1 ≤ 2 ^ t from h1)
    rw [Nat.mul_add, ← hP] at h2
    omega
  have hd1 : xa * 2 ^ s / 4294967296 < 4294967296 := by
    have : 2 ^ s ≤ 2 ^ 32 := Nat.pow_le_pow_right (by decide) (by omega)
    omega
  refine ⟨by simpa using hl, wok_set (wok_set h.ok _ hc1) _ hd1, ?_, ?_, ?_, ?_, (h.bel.setCell (Nat.le_refl _) _).setCell (Nat.le_refl _) _⟩
  · have e1 := wv_set (l := rs) (k := k + q) (by omega) (c + xa * 2 ^ s % 4294967296)
    have e2 := wv_set (l := rs.set (k + q) (c + xa * 2 ^ s % 4294967296)) (k := k + q + 1) (by simp; omega) (xa * 2 ^ s / 4294967296)
    rw [getD_set _ _ _ _ (by omega), if_neg (by omega), h.top _ (by omega)] at e2
    rw [hc] at e1
    have e3 := h.val
    rw [wv_take_succ', hxa]
    have e4 : 4294967296 ^ (k + q + 1) * (xa * 2 ^ s / 4294967296) + 4294967296 ^ (k + q) * (xa * 2 ^ s % 4294967296) = 4294967296 ^ (k + q) * (xa * 2 ^ s) := by
      rw [Nat.pow_succ, Nat.mul_assoc, ← Nat.mul_add, Nat.div_add_mod]
    have e5 : 4294967296 ^ q * (2 ^ s * (wv (ua.take k) + 4294967296 ^ k * xa)) = 4294967296 ^ q * (2 ^ s * wv (ua.take k)) + 4294967296 ^ (k + q) * (xa * 2 ^ s) := by
      rw [Nat.mul_add, Nat.mul_add, Nat.pow_add, Nat.mul_comm xa]
      congr 1
      rw [Nat.mul_left_comm (2 ^ s), ← Nat.mul_assoc, Nat.mul_comm (4294967296 ^ q)]
    rw [e5, ← e4, ← e3]
    rw [Nat.mul_add] at e1
    omega
  · intro j hj
    rw [getD_set _ _ _ _ (by simp; omega), if_neg (by omega), getD_set _ _ _ _ (by omega), if_neg (by omega)]
    exact h.top j (by omega)
  · rw [getD_set _ _ _ _ (by simp; omega), if_pos (by omega)]
    exact hdiv
  · have h1 := (h.own.stored (k + q) (.int .u32 ((c + xa * 2 ^ s % 4294967296 : Nat) : Int))).1
    rw [W32_set] at h1
    have h2 := (h1.stored (k + q + 1) (.int .u32 ((xa * 2 ^ s / 4294967296 : Nat) : Int))).1
    rwa [W32_set] at h2

structure RightInv (w wr : World) (m M : Nat) (k : Nat) (rs : List Nat) : Prop where
  len : rs.length = m
  ok : wok rs
  val : wv (rs.take k) = M % 4294967296 ^ k
  own : wr.ownsRow w.heap.size 176 1 (.slice (some ⟨w.heap.size, 0, none⟩) m m) m (W32 rs)
  bel : Below w.heap.size w wr

theorem RightInv.step {w wr : World} {m M k : Nat} {rs : List Nat} (h : RightInv w wr m M k rs) (hk : k < m) {x : Nat} (hx : x = M / 4294967296 ^ k % 4294967296) :
    RightInv w (wr.setCell ⟨w.heap.size, k, none⟩ (.int .u32 (x : Nat))) m M (k + 1) (rs.set k x) := by
  have hl := h.len
  have hlt : x < 4294967296 := by rw [hx]; exact Nat.mod_lt _ (by decide)
  refine ⟨by simpa using h.len, wok_set h.ok k hlt, ?_, ?_, h.bel.setCell (Nat.le_refl _) _⟩
  · rw [take_set_succ _ _ _ (by omega), wv_snoc, List.length_take, Nat.min_eq_left (by omega), h.val, hx, Nat.pow_succ, Nat.mod_mul]
  · have := (h.own.stored k (.int .u32 (x : Nat))).1
    rwa [W32_set] at this

end Go.Proofs.YthoiikkjjaldnaaDoor
