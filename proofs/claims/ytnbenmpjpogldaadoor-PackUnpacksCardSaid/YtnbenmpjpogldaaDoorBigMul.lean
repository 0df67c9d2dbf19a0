/- The walk of mul on lists of words. -/
import Derived.Test.YtnbenmpjpogldaaDoorBigShift
namespace Go.Proofs.YtnbenmpjpogldaaDoor
set_option linter.unusedVariables false
set_option linter.unusedSimpArgs false
set_option maxRecDepth 100000
open Go.RowKit

structure MulInv (w wr : World) (m : Nat) (V : Nat) (t : Nat) (rs : List Nat) : Prop where
  len : rs.length = m
  ok : wok rs
  val : wv rs = V
  top : ∀ j, t ≤ j → rs.getD j 0 = 0
  own : wr.ownsRow w.heap.size 73 1 (.slice (some ⟨w.heap.size, 0, none⟩) m m) m (W32 rs)
  bel : Below w.heap.size w wr

theorem MulInv.drewN {w wr : World} {m V t : Nat} {rs : List Nat} (h : MulInv w wr m V t rs) (n : Nat) : MulInv w (wr.drewN n) m V t rs :=
  ⟨h.len, h.ok, h.val, h.top, h.own, h.bel.trans ⟨rfl, rfl, rfl, Nat.le_refl _, fun _ _ => rfl⟩⟩

/-- A store of word p: the value turns by what the word turns. -/
theorem MulInv.step {w wr : World} {m V t : Nat} {rs : List Nat} (h : MulInv w wr m V t rs) {p x r V' : Nat} (hp : p < m) (hx : x < 4294967296) (hr : rs.getD p 0 = r)
    (hV : V' + 4294967296 ^ p * r = V + 4294967296 ^ p * x) (t' : Nat) (ht : t ≤ t') (hpt : p < t') :
    MulInv w (wr.setCell ⟨w.heap.size, p, none⟩ (.int .u32 (x : Nat))) m V' t' (rs.set p x) := by
  have hl := h.len
  refine ⟨by simpa using hl, wok_set h.ok _ hx, ?_, fun j hj => ?_, ?_, h.bel.setCell (Nat.le_refl _) _⟩
  · have e1 := wv_set (l := rs) (k := p) (by omega) x
    rw [hr, h.val] at e1
    omega
  · rw [getD_set _ _ _ _ (by omega), if_neg (by omega)]
    exact h.top j (by omega)
  · have := (h.own.stored p (.int .u32 (x : Nat))).1
    rwa [W32_set] at this

theorem mul_arith {c xa xb r : Nat} (hc : c < 4294967296) (ha : xa < 4294967296) (hb : xb < 4294967296) (hr : r < 4294967296) :
    c + (xa * xb + r) < 18446744073709551616 ∧ (c + (xa * xb + r)) / 4294967296 < 4294967296 := by
  have h1 : xa * xb ≤ 4294967295 * 4294967295 := Nat.mul_le_mul (by omega) (by omega)
  have h2 : c + (xa * xb + r) < 18446744073709551616 := by omega
  exact ⟨h2, by omega⟩

theorem mul_arith' {c xa xb r : Nat} (h : c + (xa * xb + r) < 18446744073709551616) :
    IntKind.u64.wrap ((c : Int) + IntKind.u64.wrap (IntKind.u64.wrap ((xa : Int) * xb) + r)) = ((c + (xa * xb + r) : Nat) : Int) := by
  have e : ∀ z, IntKind.u64.wrap z = z % 18446744073709551616 := by intro z; simp [IntKind.wrap, IntKind.signed, IntKind.bits]
  rw [e, e, e, show ((xa : Int) * xb) = ((xa * xb : Nat) : Int) from by simp]
  generalize xa * xb = p at *
  omega

theorem mul_V {B P V c xa xb r S : Nat} (hV : V + P * c = S) (hr : P * r ≤ V) :
    (V - P * r + P * ((c + (xa * xb + r)) % B)) + (P * B) * ((c + (xa * xb + r)) / B) = S + P * (xa * xb) := by
  rw [Nat.mul_assoc P, Nat.add_assoc, ← Nat.mul_add, Nat.mod_add_div]
  rw [Nat.mul_add, Nat.mul_add]
  omega

theorem getD_wv_le (l : List Nat) (p : Nat) : 4294967296 ^ p * l.getD p 0 ≤ wv l := by
  by_cases h : p < l.length
  · have e : wv l = wv (l.take (p + 1)) + 4294967296 ^ (p + 1) * wv (l.drop (p + 1)) := by
      conv => lhs; rw [← List.take_append_drop (p + 1) l]
      rw [wv_append, List.length_take, Nat.min_eq_left (by omega)]
    rw [e, wv_take_succ']
    omega
  · rw [List.getD_eq_getElem?_getD, List.getElem?_eq_none (by omega)]; simp

end Go.Proofs.YtnbenmpjpogldaaDoor
