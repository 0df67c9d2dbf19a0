/- A region that draws its order, walked once, where every world of a class serves: loads of boxes and calls whose contracts keep the class. -/
import Derived.Test.YtnbenmpjpogldaaDoorRow
import Derived.BigQuiet
import Derived.Deep.QuietTactic
namespace Go.Proofs.YtnbenmpjpogldaaDoor
set_option linter.unusedVariables false
set_option linter.unusedSimpArgs false
set_option maxRecDepth 100000
open Go.RowKit

theorem wp_region_quietC {P : Program} (C : World → Prop) {id : Nat} {Q : Exit → Act → World → Prop} {a : Act} {w : World} {l : List Oper} (hm : P.follows .mixedOrders = true) (hB : Region.lexB .any l.toArray = true) (hC : C w.drew)
    (h : wpQuiet P l.toArray C (fun a' => ∀ w', C w' → Q .normal a' w') l a) : (Code.region id l.toArray true).wp P Q a w :=
  wp_region_quiet (C := C) hm hB hC (by simpa using h)
theorem quiet_loadI {ops : Array Oper} {C : World → Prop} {o : Oper} {a : Act} {K : Act → Prop} (hw : Region.wanted o (yielded ops a.tmps) = true) (ty : TypeId) (x : Operand) (ho : o.op = .load ty x)
    (g : Nat) (t : TypeId) (xs : List Int) (n : Nat) (d : TypeDesc) (hx : a.eval x = .pointer (some ⟨g, 0, none⟩)) (hC : ∀ W, C W → IB W g t xs) (hu : Tryd.prog.underlying ty = some d) (hd : isAggD d = true)
    (hi : (Tryd.prog.info? ty).map (·.size) = some n) (hl : xs.length = n) (k : K (a.put o.dst (.agg (agi xs)))) :
    if Region.wanted o (yielded ops a.tmps) then o.quiet Tryd.prog a C K else K (a.put o.dst undef) := by
  rw [if_pos hw]
  refine ⟨_, fun W hW => ?_, k⟩
  have h := IB.load (hC W hW) hu hd hi hl
  unfold Oper.quietAt execOp
  simp only [ho, hx, Sem.run_bind, h, Result.andThen_ok, Sem.run_pure]
  exact ⟨rfl, rfl⟩
end Go.Proofs.YtnbenmpjpogldaaDoor
