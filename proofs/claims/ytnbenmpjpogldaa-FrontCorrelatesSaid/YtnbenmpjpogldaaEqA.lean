/- Two arrays of numbers that are the same. -/
import Derived.Test.YtnbenmpjpogldaaRow
import Derived.Laws.StructEq
namespace Go.Proofs.Ytnbenmpjpogldaa
set_option linter.unusedVariables false
set_option linter.unusedSimpArgs false
set_option maxRecDepth 100000
open Go.RowKit

theorem run_equalIn_agi (d : Nat) {t : TypeId} {n : Nat} (ht : Try.prog.underlying t = some (.array n 3)) (xs : List Int) (hl : xs.length = n) (w : World) :
    (Op.equalIn (d + 2) t (.agg (agi xs)) (.agg (agi xs))).run Try.prog w = .ok true w := by
  have hs : ∀ w, (sizeOf 3).run Try.prog w = .ok 1 w := fun w => by kernel_rfl
  have ha : ∀ w, (isAgg 3).run Try.prog w = .ok false w := fun w => by kernel_rfl
  rw [Op.equalIn]
  simp only [Sem.run_bind, run_underlying ht, Result.andThen_ok, hs, Std.Legacy.Range.forIn_eq_forIn_range', Std.Legacy.Range.size, Nat.sub_zero, Nat.add_sub_cancel, Nat.div_one]
  have hl2 : ∀ i ∈ List.range' 0 n 1, i < n := fun i hi => by simpa using (List.mem_range'_1.1 hi).2
  generalize List.range' 0 n 1 = l at hl2 ⊢
  induction l with
  | nil => simp
  | cons i l ih =>
    have hi : i < n := hl2 i (by simp)
    have px : (part 3 (agi xs) (i * 1)).run Try.prog w = .ok (.int .i64 (xs.getD i 0)) w := by
      have hg := agi_get xs i (by omega)
      simp [part, ha, hg]
    have pe : (Op.equalIn (d + 1) 3 (.int .i64 (xs.getD i 0)) (.int .i64 (xs.getD i 0))).run Try.prog w = .ok true w := by
      rw [run_equalIn_int w d 3 .i64 .i64 _ _ Try.underlying3]
      simp
    simp only [List.forIn_cons, Sem.run_bind, px, pe, Result.andThen_ok]
    simp only [Bool.not_true, Bool.false_eq_true, if_false, Sem.run_pure, Result.andThen_ok]
    exact ih fun j hj => hl2 j (by simp [hj])

theorem run_eql_agi {t : TypeId} {n : Nat} (ht : Try.prog.underlying t = some (.array n 3)) (xs : List Int) (hl : xs.length = n) (w : World) :
    (binOp .eql t (.agg (agi xs)) (.agg (agi xs))).run Try.prog w = .ok (.bool true) w := by
  rw [run_eql_struct, run_equalIn_agi 9998 ht xs hl w]
  rfl

/-! An array laid into a new block. -/
theorem Blk.stored {w : World} {g : Nat} {t : TypeId} {cs c2 : Array Value} (h : Blk w g t cs) (o : Obj) : Blk ((w.alloc o).setRow w.heap.size c2) g t cs :=
  Blk.rowFar (Blk.alloc h o) (by have := Blk.lt h; omega)
theorem IB.stored (w : World) (t : TypeId) (zs ys : List Int) : IB ((w.alloc (.cells (agi zs) t)).setRow w.heap.size (agi ys)) w.heap.size t ys := (IB.new w t zs).setRow ys
theorem below_stored (w : World) (o : Obj) (c2 : Array Value) : Below w.heap.size w ((w.alloc o).setRow w.heap.size c2) :=
  below_setRow ((Below.refl _ w).alloc (Nat.le_refl _) o) (Nat.le_refl _) c2
end Go.Proofs.Ytnbenmpjpogldaa
