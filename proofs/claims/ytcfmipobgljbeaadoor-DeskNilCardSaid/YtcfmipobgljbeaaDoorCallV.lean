/- A call of a desk, handed in. -/
import Derived.Test.YtcfmipobgljbeaaDoorDkNW
import Derived.WideShapes
import Derived.ChangeArms
import Derived.ProofKit
import Derived.OpenShut
import Derived.Lib.SmallJoins
import Derived.Deep.Fields
namespace Go.Proofs.YtcfmipobgljbeaaDoor
set_option linter.unusedVariables false
set_option linter.unusedSimpArgs false
set_option maxRecDepth 100000
open Go.RowKit Go.ChangeShapes Go.WideShapes

theorem array5 {α : Type} {cs : Array α} (h : cs.size = 5) : ∃ c0 c1 c2 c3 c4, cs = #[c0, c1, c2, c3, c4] := by
  obtain ⟨l⟩ := cs
  match l, h with
  | [c0, c1, c2, c3, c4], _ => exact ⟨c0, c1, c2, c3, c4, rfl⟩
theorem has_wf {k : IntKind} {n : Int} (h : (Lit.int k n).wf = true) : k.has n := by simpa [Lit.wf, IntKind.has] using h
theorem cellsCall : Tryd.prog.cellsOf 25 = 5 := by kernel_rfl
theorem value_call {H : Type} {enc : TypeId × Value → H} {w : World} {r : Reach} {b : Nat} {v : Value} {d : DataW H} {ps : List MemPlace} (hv : Value.okWide Tryd.prog w r b 25 v)
    (h : DataW.Trod enc Tryd.prog w 0 (fun _ => true) true 25 v d ps) (hsz : ∀ x ∈ d.weights Tryd.prog 25, x ≤ reachBytes) :
    ∃ (k u : Int) (q : Bool) (A A2 : Option Addr) (c c2 : Nat) (xs bs : List Int), v = .agg (callC k u q A xs.length c A2 bs.length c2) ∧ (-9223372036854775808 ≤ k ∧ k ≤ 9223372036854775807) ∧ (-9223372036854775808 ≤ u ∧ u ≤ 9223372036854775807) ∧
      Rs w w.heap.size A xs ∧ W64 xs ∧ (xs.length ≤ c ∧ c * 8 ≤ 140737488351232) ∧ Rb w w.heap.size A2 bs ∧ (∀ y ∈ bs, IntKind.u8.has y) ∧ (bs.length ≤ c2 ∧ c2 * 1 ≤ 140737488351232) := by
  obtain ⟨cs, rfl, hs⟩ := okWide_struct Tryd.underlying25 hv
  rw [cellsCall] at hs
  obtain ⟨v0, v1, v2, v3, v4, rfl⟩ := array5 hs
  obtain ⟨fuel, hf⟩ := h
  obtain ⟨xs, n, _, hx, _, hlen, hg⟩ := DataW.trod_struct Tryd.underlying25 hf
  match xs, hlen with
  | [y0, y1, y2, y3, y4], _ =>
    simp only [Prod.mk.injEq] at hx
    obtain ⟨rfl, _⟩ := hx
    have c1 : Tryd.prog.cellsOf 3 = 1 := by kernel_rfl
    have c2 : Tryd.prog.cellsOf 4 = 1 := by kernel_rfl
    have c3 : Tryd.prog.cellsOf 22 = 1 := by kernel_rfl
    have c4 : Tryd.prog.cellsOf 23 = 1 := by kernel_rfl
    have c5 : Tryd.prog.cellsOf 5 = 1 := by kernel_rfl
    have b1 : Tryd.prog.bytesOf 3 = 8 := by kernel_rfl
    have b2 : Tryd.prog.bytesOf 5 = 1 := by kernel_rfl
    have g0 := hg 0 _ rfl
    have g1 := hg 1 _ rfl
    have g2 := hg 2 _ rfl
    have g3 := hg 3 _ rfl
    have g4 := hg 4 _ rfl
    simp only [Value.cells, c1, c2, c3, c4] at g0 g1 g2 g3 g4
    try simp at g0
    try simp at g1
    try simp at g2
    try simp at g3
    try simp at g4
    rw [c1] at g0 g1
    rw [c2] at g2
    rw [c3] at g3
    rw [c4] at g4
    simp only [List.take_succ_cons, List.take_zero] at g0 g1 g2 g3 g4
    obtain ⟨k, e0, _, w0⟩ := DataW.trod_int Tryd.underlying3 g0
    obtain ⟨u, e1, _, w1⟩ := DataW.trod_int Tryd.underlying3 g1
    obtain ⟨q, e2, _⟩ := DataW.trod_bool Tryd.underlying4 g2
    simp only [List.cons.injEq, and_true] at e0 e1 e2
    subst e0
    subst e1
    subst e2
    have hw : ∀ (j : Nat) (t : TypeId) (dd : DataW H), ([3, 3, 4, 22, 23] : List TypeId)[j]? = some t → ([y0.1, y1.1, y2.1, y3.1, y4.1] : List (DataW H))[j]? = some dd → ∀ x ∈ dd.weights Tryd.prog t, x ≤ reachBytes := fun j t dd h1 h2 x hx => by
      refine hsz x ?_
      simp only [DataW.weights, Tryd.underlying25]
      exact DataW.weights_mem_each h1 h2 x hx
    obtain ⟨A, m, c, s3⟩ := Go.Joins.slice_form Tryd.underlying22 g3
    obtain ⟨A2, m2, c', s4⟩ := Go.Joins.slice_form Tryd.underlying23 g4
    simp only [List.cons.injEq, and_true] at s3 s4
    subst s3
    subst s4
    obtain ⟨zs, hz, l1, l2, r1, k1⟩ := slice_reads Tryd.underlying22 Tryd.underlying3 c1 g3 (hw 3 _ _ rfl rfl)
    obtain ⟨ws, hws, m1, m2', r2, k2⟩ := slice_reads Tryd.underlying23 Tryd.underlying5 c5 g4 (hw 4 _ _ rfl rfl)
    rw [b1] at l2
    rw [b2] at m2'
    subst hz
    subst hws
    exact ⟨k, u, q, A, A2, c, c', zs, ws, rfl, range_i64 (has_wf w0), range_i64 (has_wf w1), r1, fun x hx => range_i64 (k1 x hx), ⟨l1, l2⟩, r2, k2, ⟨m1, m2'⟩⟩
end Go.Proofs.YtcfmipobgljbeaaDoor
