/- Bytes as an argument. -/
import Derived.Test.YtnbenmpjpogldaaDoorByt
import Derived.Test.YtnbenmpjpogldaaDoorPkS
import Derived.WideShapes
import Derived.ChangeArms
namespace Go.Proofs.YtnbenmpjpogldaaDoor
set_option linter.unusedVariables false
set_option linter.unusedSimpArgs false
set_option maxRecDepth 100000
open Go.RowKit Go.ChangeShapes Go.WideShapes

theorem trod_bytes_form {H : Type} {enc : TypeId × Value → H} {P : Program} {w : World} {t e : TypeId} {v : Value} {d : DataW H} {ps : List MemPlace} (ht : P.underlying t = some (.slice e)) (he : P.underlying e = some (.int .u8)) (hc : P.cellsOf e = 1) (hb : P.bytesOf e = 1)
    (h : DataW.Trod enc P w 0 (fun _ => true) true t v d ps) (hsz : ∀ x ∈ d.weights P t, x ≤ reachBytes) (hv : ∃ A n c, v = .slice A n c) :
    ∃ A c xs, v = .slice A xs.length c ∧ Rb w w.heap.size A xs ∧ Byts xs ∧ xs.length ≤ c ∧ c ≤ 140737488351232 := by
  obtain ⟨A, n, c, rfl⟩ := hv
  obtain ⟨fuel, hf⟩ := h
  have hf' : DataW.trod enc P w 0 (fun _ => true) true fuel t [.slice A n c] = some (d, ps) := by simpa [Value.cells] using hf
  obtain ⟨xs, hl, h1, h2, h3, h4⟩ := slice_reads ht he hc hf' hsz
  rw [hb] at h2
  subst hl
  refine ⟨A, c, xs, rfl, h3, fun i => ?_, h1, by omega⟩
  rw [List.getD_eq_getElem?_getD]
  cases hi : xs[i]? with
  | none => simp
  | some x =>
    have := h4 x (List.mem_of_getElem? hi)
    have h5 := this.1
    have h6 := this.2
    simp [IntKind.min, IntKind.max, IntKind.signed, IntKind.bits] at h5 h6
    simp
    omega
end Go.Proofs.YtnbenmpjpogldaaDoor
