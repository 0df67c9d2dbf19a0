/- Texts that the law rests on, laid together: BigIMul, BigMulO, MakeI, PastM. -/
import Derived.Test.YthoiikkjjaldnaaDoorZ7ba9e8
import Derived.Test.YthoiikkjjaldnaaDoorZ10bfcc
import Derived.Test.YthoiikkjjaldnaaDoorZ6b4648
/- The walks of Mul. -/
namespace Go.Proofs.YthoiikkjjaldnaaDoor
set_option linter.unusedVariables false
set_option linter.unusedSimpArgs false
set_option maxRecDepth 100000
open Go.RowKit

end Go.Proofs.YthoiikkjjaldnaaDoor

/- The walk of Mul, whatever Ints are one. -/
namespace Go.Proofs.YthoiikkjjaldnaaDoor
set_option linter.unusedVariables false
set_option linter.unusedSimpArgs false
set_option maxRecDepth 100000
open Go.RowKit

end Go.Proofs.YthoiikkjjaldnaaDoor

/- make of a slice of numbers. -/
namespace Go.Proofs.YthoiikkjjaldnaaDoor
set_option linter.unusedVariables false
set_option linter.unusedSimpArgs false
set_option maxRecDepth 100000
open Go.RowKit

theorem made_ints (n : Nat) : (madeCells (Value.int .i64 0).cells (n * 1)).toList = ints (List.replicate n 0) := by
  rw [Nat.mul_one]
  show (madeCells #[Value.int .i64 0] n).toList = _
  rw [toList_madeCells_one]
  simp [ints]

theorem wpList_makeI {ops : Array Oper} {rest : List Oper} {o : Oper} {a : Act} {w : World} {Q : Exit → Act → World → Prop} (hgd : o.guard = none) (l c : Operand)
    (ho : o.op = .makeSlice 36 l c) (kl kc : IntKind) (n : Nat) (hl : a.eval l = .int kl (n : Int)) (hc : a.eval c = .int kc (n : Int)) (base : Nat) (hn : n ≤ 17592186044416) (hbase : base ≤ w.heap.size)
    (h : ∀ w1, Own w1 base (some ⟨w.heap.size, 0, none⟩) n (List.replicate n 0) → w.grownBy w1 none → wpList Tryd.prog ops Q rest (a.put o.dst (.slice (some ⟨w.heap.size, 0, none⟩) n n)) w1) :
    wpList Tryd.prog ops Q (o :: rest) a w := by
  obtain ⟨i0, hi, hz0, hz1, hz2⟩ := info_parts infoI
  refine wpList_make_full w hgd l c 36 ho base 3 i0 (.int .i64 0) 1 Tryd.underlying36 hi hz0 hz1 kl kc (n : Int) (n : Int) n hl hc rfl rfl (by rw [hz2]; omega) (by unfold maxLen; omega) hbase ?_
  intro w1 hown hgrow
  refine h w1 ?_ hgrow
  unfold Own
  rw [List.length_replicate]
  rw [← made_ints]
  simpa using hown
end Go.Proofs.YthoiikkjjaldnaaDoor

/- Plain facts on the excitation a lag ago. No program in sight. -/
namespace Go.Proofs.YthoiikkjjaldnaaDoor
set_option linter.unusedVariables false
set_option linter.unusedSimpArgs false
set_option maxRecDepth 100000

def pastE (h : List Int) (lag : Nat) (i : Nat) : Int := h.getD (80 - lag + i % lag) 0
def pastB (lag : Int) : Bool := decide (20 ≤ lag ∧ lag ≤ 79)
def pastL (h : List Int) (lag : Int) : List Int := if pastB lag then (List.range 40).map (pastE h lag.toNat) else []
theorem pastB_yes {lag : Int} (h1 : 20 ≤ lag) (h2 : lag ≤ 79) : pastB lag = true := by unfold pastB; simp; omega
theorem pastB_no {lag : Int} (h : lag < 20 ∨ 79 < lag) : pastB lag = false := by unfold pastB; simp; omega
theorem pastL_len {h : List Int} {lag : Int} (hb : pastB lag = true) : (pastL h lag).length = 40 := by unfold pastL; rw [hb]; simp
theorem range_get {n j : Nat} (f : Nat → Int) (h : j < n) : ((List.range n).map f).getD j 0 = f j := by
  rw [List.getD_eq_getElem?_getD, List.getElem?_map, List.getElem?_range h]
  rfl
theorem pastL_get {h : List Int} {lag : Int} (hb : pastB lag = true) (j : Nat) (hj : j < 40) : (pastL h lag).getD j 0 = pastE h lag.toNat j := by
  unfold pastL; rw [if_pos hb, range_get _ hj]
theorem pastE_low {h : List Int} {lag i : Nat} (hi : i < lag) : pastE h lag i = h.getD (80 - lag + i) 0 := by
  unfold pastE; rw [Nat.mod_eq_of_lt hi]
theorem pastE_high {h : List Int} {lag i : Nat} (hi : lag ≤ i) : pastE h lag i = pastE h lag (i - lag) := by
  unfold pastE; rw [Nat.mod_eq_sub_mod hi]
theorem snoc_range {n : Nat} (f : Nat → Int) : (List.range n).map f ++ [f n] = (List.range (n + 1)).map f := by
  rw [List.range_succ, List.map_append]; rfl
end Go.Proofs.YthoiikkjjaldnaaDoor
