/- A whole array of numbers out of a block, into a block, and one number out of an array. -/
import Derived.Test.YtnbenmpjpogldaaDoorPush
import Derived.Laws.Tables
import Derived.Deep.WholeRow
import Derived.BigFrame
namespace Go.Proofs.YtnbenmpjpogldaaDoor
set_option linter.unusedVariables false
set_option linter.unusedSimpArgs false
set_option maxRecDepth 100000
open Go.RowKit

theorem agi_one (xs : List Int) : (agi xs).all (·.oneCell') = true := by
  rw [Array.all_eq_true_iff_forall_mem]
  intro v hv
  exact ints_one xs v (by simpa [agi] using hv)

section
variable {w : World} {g : Nat} {t ty : TypeId} {xs ys : List Int} {d : TypeDesc} {n : Nat}
theorem IB.load (h : IB w g t xs) (hu : Tryd.prog.underlying ty = some d) (hd : isAggD d = true) (hi : (Tryd.prog.info? ty).map (·.size) = some n) (hl : xs.length = n) :
    (Instr.loadAt ty (.pointer (some ⟨g, 0, none⟩))).run Tryd.prog w = .ok (.agg (agi xs)) w := by
  simp only [Instr.loadAt, Instr.sureAddr, Sem.run_bind, Sem.run_pure, Result.andThen]
  exact run_loadVar_row w g t ty (agi xs) (0, 0) d h hu (by cases d <;> first | rfl | (simp [isAggD] at hd)) (by rw [hi, agi_size, hl])
theorem IB.store (h : IB w g t xs) (hi : (Tryd.prog.info? ty).map (·.size) = some n) (hl : xs.length = n) (hl2 : ys.length = n) :
    (Instr.storeAt ty (.pointer (some ⟨g, 0, none⟩)) (.agg (agi ys))).run Tryd.prog w = .ok () (w.setRow g (agi ys)) := by
  simp only [Instr.storeAt, Instr.sureAddr, Sem.run_bind, Sem.run_pure, Result.andThen]
  exact run_storeVar_row w g t ty (agi xs) (agi ys) h (by rw [hi, agi_size, hl2]) (by rw [agi_size, agi_size, hl, hl2]) (agi_one ys)
theorem IB.setRow (h : IB w g t xs) (ys : List Int) : IB (w.setRow g (agi ys)) g t ys := setRow_heap w g _ _ t _ h
theorem Blk.rowFar {k : Nat} {cs c2 : Array Value} (h : Blk w k t cs) (hne : k ≠ g) : Blk (w.setRow g c2) k t cs := (setRow_other w g k c2 hne).trans h
theorem below_setRow {B : Nat} {a : World} (h : Below B a w) (hg : B ≤ g) (cs : Array Value) : Below B a (w.setRow g cs) :=
  ⟨h.os, h.tape, h.output, by simpa using h.size, fun k hk => (setRow_other w g k cs (by omega)).trans (h.block k hk)⟩
theorem rs_cell {A : Option Addr} {c : Nat} : (Value.slice A 0 c) = .slice A 0 c := rfl
end

theorem IB.cellsFrom {w : World} {g : Nat} {t : TypeId} {xs : List Int} {n : Nat} (h : IB w g t xs) (hl : xs.length = n) :
    (loadCellsFrom ⟨g, 0, none⟩ 0 n #[]).run Tryd.prog w = .ok (agi xs) w := by
  have hn : (agi xs).size = n := by rw [agi_size, hl]
  subst hn
  have := run_loadCells_list (P := Tryd.prog) w ⟨g, 0, none⟩ (agi xs).toList (fun j v hv => by
    have hadd : (⟨g, 0, none⟩ : Addr).add j = ⟨g, j, none⟩ := by unfold Addr.add; split <;> simp_all
    rw [hadd, cell_of_row _ _ j (agi xs) t (0, 0) h]
    simpa using hv)
  simpa [loadCells] using this

/-- The answer of a function whose first result lies in a block. -/
theorem results_row2 {fn : Func} {p q : Tmp} {ty : TypeId} (h : fn.results = #[.cell p ty, .tmp q]) (tmps : Array Value) (w : World) (g : Nat) (t : TypeId) (xs : List Int) (d : TypeDesc) (n : Nat)
    (hp : tmps.getD p undef = .pointer (some ⟨g, 0, none⟩)) (hg : IB w g t xs) (hu : Tryd.prog.underlying ty = some d) (hd : isAggD d = true) (hi : (Tryd.prog.info? ty).map (·.size) = some n) (hl : xs.length = n) :
    (results fn tmps).run Tryd.prog w = .ok (.tuple #[.agg (agi xs), tmps.getD q undef]) w := by
  have hp' : tmps[p]?.getD undef = .pointer (some ⟨g, 0, none⟩) := by simpa using hp
  have hr := run_loadVar_row (P := Tryd.prog) w g t ty (agi xs) (0, 0) d hg hu (by cases d <;> first | rfl | (simp [isAggD] at hd)) (by rw [hi, agi_size, hl])
  simp [results, h, hp', asAddr, hr]
theorem results_row3 {fn : Func} {p q r : Tmp} {ty : TypeId} (h : fn.results = #[.cell p ty, .tmp q, .tmp r]) (tmps : Array Value) (w : World) (g : Nat) (t : TypeId) (xs : List Int) (d : TypeDesc) (n : Nat)
    (hp : tmps.getD p undef = .pointer (some ⟨g, 0, none⟩)) (hg : IB w g t xs) (hu : Tryd.prog.underlying ty = some d) (hd : isAggD d = true) (hi : (Tryd.prog.info? ty).map (·.size) = some n) (hl : xs.length = n) :
    (results fn tmps).run Tryd.prog w = .ok (.tuple #[.agg (agi xs), tmps.getD q undef, tmps.getD r undef]) w := by
  have hp' : tmps[p]?.getD undef = .pointer (some ⟨g, 0, none⟩) := by simpa using hp
  have hr := run_loadVar_row (P := Tryd.prog) w g t ty (agi xs) (0, 0) d hg hu (by cases d <;> first | rfl | (simp [isAggD] at hd)) (by rw [hi, agi_size, hl])
  simp [results, h, hp', asAddr, hr]

/-- The whole array into a block, out of a block, as the walk meets them. -/
theorem wpList_storeI {ops : Array Oper} {rest : List Oper} {o : Oper} {a : Act} {w : World} {Q : Exit → Act → World → Prop} (hgd : o.guard = none) (ty : TypeId) (x y : Operand) (ho : o.op = .store ty x y)
    (g : Nat) (t : TypeId) (xs ys : List Int) (n : Nat) (hx : a.eval x = .pointer (some ⟨g, 0, none⟩)) (hy : a.eval y = .agg (agi ys)) (h : IB w g t xs)
    (hi : (Tryd.prog.info? ty).map (·.size) = some n) (hl : xs.length = n) (hl2 : ys.length = n)
    (k : wpList Tryd.prog ops Q rest (a.put o.dst undef) (w.setRow g (agi ys))) : wpList Tryd.prog ops Q (o :: rest) a w :=
  wpList_store_row hgd ty x y ho g (agi ys) hx hy t (agi xs) h (by rw [hi, agi_size, hl2]) (by rw [agi_size, agi_size, hl, hl2]) (agi_one ys) k
theorem wpList_loadI {ops : Array Oper} {rest : List Oper} {o : Oper} {a : Act} {w : World} {Q : Exit → Act → World → Prop} (hw : Region.wanted o (yielded ops a.tmps) = true) (ty : TypeId) (x : Operand) (ho : o.op = .load ty x)
    (g : Nat) (t : TypeId) (xs : List Int) (n : Nat) (d : TypeDesc) (hx : a.eval x = .pointer (some ⟨g, 0, none⟩)) (h : IB w g t xs) (hu : Tryd.prog.underlying ty = some d) (hd : isAggD d = true)
    (hi : (Tryd.prog.info? ty).map (·.size) = some n) (hl : xs.length = n)
    (k : wpList Tryd.prog ops Q rest (a.put o.dst (.agg (agi xs))) w) : wpList Tryd.prog ops Q (o :: rest) a w :=
  Go.BigFrame.wpList_want hw fun K hK => wp_load_row ty x ho g hx t (agi xs) (0, 0) d h hu (by cases d <;> first | rfl | (simp [isAggD] at hd)) (by rw [hi, agi_size, hl]) (hK _ _ k)

theorem run_index_agi {t : TypeId} {n : Nat} (ht : Tryd.prog.underlying t = some (.array n 3)) (xs : List Int) (hl : xs.length = n) (k : Nat) (hk : k < n) (w : World) :
    (Instr.index t (.agg (agi xs)) (.int .i64 (k : Nat))).run Tryd.prog w = .ok (.int .i64 (xs.getD k 0)) w := by
  have hs : ∀ w, (sizeOf 3).run Tryd.prog w = .ok 1 w := fun w => by kernel_rfl
  have ha : ∀ w, (isAgg 3).run Tryd.prog w = .ok false w := fun w => by kernel_rfl
  have hg := agi_get xs k (by omega)
  simp [Instr.index, asIntOf, run_underlying ht, hk, part, hs, ha, hg]

/-! A row of the call's own, where an elder block is written. -/
theorem Own.ne_ {w : World} {base c g : Nat} {A : Option Addr} {xs : List Int} (h : Own w base A c xs) (hg : g < base) : ∀ ad, A = some ad → ad.block ≠ g := fun ad e => by
  have := (h.lt ad e).1
  omega
theorem Own.setRow {w : World} {base c g : Nat} {A : Option Addr} {xs : List Int} (h : Own w base A c xs) (hg : g < base) (cs : Array Value) : Own (w.setRow g cs) base A c xs :=
  h.kept (row := some g) ⟨rfl, rfl, rfl, by simp [World.setRow], fun i _ hn => setRow_other w g i cs (by intro e; subst e; exact hn rfl)⟩ (fun ad e h2 => by
    injection h2 with h2
    exact h.ne_ hg ad e h2)
theorem Own.setC {w : World} {base c g : Nat} {A : Option Addr} {xs : List Int} (h : Own w base A c xs) (hg : g < base) (i : Nat) (v : Value) : Own (w.setCell ⟨g, i, none⟩ v) base A c xs :=
  h.kept (row := some g) ⟨rfl, rfl, rfl, by simp [World.setCell], fun j _ hn => Below.heap_setCell _ _ _ j (by simpa using hn)⟩ (fun ad e h2 => by
    injection h2 with h2
    exact h.ne_ hg ad e h2)
end Go.Proofs.YtnbenmpjpogldaaDoor
