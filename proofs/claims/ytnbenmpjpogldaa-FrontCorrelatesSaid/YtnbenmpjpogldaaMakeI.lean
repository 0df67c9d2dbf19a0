/- make of a slice of numbers. -/
import Derived.Test.YtnbenmpjpogldaaPush
namespace Go.Proofs.Ytnbenmpjpogldaa
set_option linter.unusedVariables false
set_option linter.unusedSimpArgs false
set_option maxRecDepth 100000
open Go.RowKit

theorem made_ints (n : Nat) : (madeCells (Value.int .i64 0).cells (n * 1)).toList = ints (List.replicate n 0) := by
  rw [Nat.mul_one]
  show (madeCells #[Value.int .i64 0] n).toList = _
  rw [toList_madeCells_one]
  simp [ints]

theorem wpList_makeI {ops : Array Oper} {rest : List Oper} {o : Oper} {a : Act} {w : World} {Q : Exit → Act → World → Prop} (hgd : o.guard = none) (l c : Operand)
    (ho : o.op = .makeSlice 22 l c) (kl kc : IntKind) (n : Nat) (hl : a.eval l = .int kl (n : Int)) (hc : a.eval c = .int kc (n : Int)) (base : Nat) (hn : n ≤ 17592186044416) (hbase : base ≤ w.heap.size)
    (h : ∀ w1, Own w1 base (some ⟨w.heap.size, 0, none⟩) n (List.replicate n 0) → w.grownBy w1 none → wpList Try.prog ops Q rest (a.put o.dst (.slice (some ⟨w.heap.size, 0, none⟩) n n)) w1) :
    wpList Try.prog ops Q (o :: rest) a w := by
  obtain ⟨i0, hi, hz0, hz1, hz2⟩ := info_parts infoI
  refine wpList_make_full w hgd l c 22 ho base 3 i0 (.int .i64 0) 1 Try.underlying22 hi hz0 hz1 kl kc (n : Int) (n : Int) n hl hc rfl rfl (by rw [hz2]; omega) (by unfold maxLen; omega) hbase ?_
  intro w1 hown hgrow
  refine h w1 ?_ hgrow
  unfold Own
  rw [List.length_replicate]
  rw [← made_ints]
  simpa using hown
end Go.Proofs.Ytnbenmpjpogldaa
