/- Package-level tables of numbers: what the row's list says of them. -/
import Derived.Test.YtnbenmpjpogldaaDoorRow
import Derived.Lib.LaidTab
import Derived.LaidMore
import Derived.MakeChecks
namespace Go.Proofs.YtnbenmpjpogldaaDoor
set_option linter.unusedVariables false
set_option linter.unusedSimpArgs false
set_option maxRecDepth 100000
open Go.RowKit Go.ChangeShapes

def rootsL : List Int := [444758425, 203159592, 97181937, 47538611, 23511884, 11692281, 5830311, 2911209, 1454619, 727063, 363470, 181719, 90856, 45427, 22713]
def gainsL : List Int := [0, 3277, 6554, 9830, 12452, 14746, 16384, 18022]
def widthL : List Int := [6, 6, 5, 5, 4, 4, 3, 3]

/-- Block g is an array of these numbers. -/
def TabA (w : World) (g : Nat) (zs : List Int) : Prop := ∃ t fr, w.heap[g]? = some (.cells (agi zs) t fr)
/-- Block g is a slice of these numbers. -/
def TabS (w : World) (g : Nat) (zs : List Int) : Prop := ∃ A c, g < w.heap.size ∧ w.cell? ⟨g, 0, none⟩ = some (.slice A zs.length c) ∧ Rs w w.heap.size A zs ∧ zs.length ≤ c
section
variable {w w' : World} {g : Nat} {zs : List Int}
theorem TabA.lt (h : TabA w g zs) : g < w.heap.size := by
  obtain ⟨t, fr, h⟩ := h
  rcases Nat.lt_or_ge g w.heap.size with hlt | hge
  · exact hlt
  · rw [Array.getElem?_eq_none hge] at h; cases h
theorem TabA.cell (h : TabA w g zs) (i : Nat) (hi : i < zs.length) : w.cell? ⟨g, i, none⟩ = some (.int .i64 (zs.getD i 0)) := by
  obtain ⟨t, fr, h⟩ := h
  exact (cell_of_row w g i _ t fr h).trans (agi_get zs i hi)
theorem TabA.below (h : TabA w g zs) (hb : Below w.heap.size w w') : TabA w' g zs := by
  obtain ⟨t, fr, h1⟩ := h
  exact ⟨t, fr, (hb.block g (TabA.lt ⟨t, fr, h1⟩)).trans h1⟩
theorem TabS.below (h : TabS w g zs) (hb : Below w.heap.size w w') : TabS w' g zs := by
  obtain ⟨A, c, h0, h1, h2, h3⟩ := h
  have := hb.size
  exact ⟨A, c, by omega, (hb.cell (p := ⟨g, 0, none⟩) h0).trans h1, (h2.below hb).more this, h3⟩
theorem TabA.below' {B : Nat} (h : TabA w g zs) (hb : Below B w w') (hB : w.heap.size ≤ B) : TabA w' g zs := h.below (hb.mono hB)
theorem TabS.below' {B : Nat} (h : TabS w g zs) (hb : Below B w w') (hB : w.heap.size ≤ B) : TabS w' g zs := h.below (hb.mono hB)
/-- A cell of the slice. -/
theorem TabS.form (h : TabS w g zs) : ∃ A c, w.cell? ⟨g, 0, none⟩ = some (.slice A zs.length c) ∧ zs.length ≤ c ∧ ∀ k, k < zs.length → ∃ ad, A = some ad ∧ w.cell? (ad.add k) = some (.int .i64 (zs.getD k 0)) := by
  obtain ⟨A, c, _, h1, h2, h3⟩ := h
  refine ⟨A, c, h1, h3, fun k hk => ?_⟩
  obtain ⟨ad, e, _, hc⟩ := h2.at_ hk
  exact ⟨ad, e, hc⟩
end

/-- A whole table, loaded. -/
theorem wpList_loadT {ops : Array Oper} {rest : List Oper} {o : Oper} {a : Act} {w : World} {Q : Exit → Act → World → Prop} (hw : Region.wanted o (yielded ops a.tmps) = true) (ty : TypeId) (x : Operand) (ho : o.op = .load ty x)
    (g : Nat) (xs : List Int) (n : Nat) (d : TypeDesc) (hx : a.eval x = .pointer (some ⟨g, 0, none⟩)) (h : TabA w g xs) (hu : Tryd.prog.underlying ty = some d) (hd : isAggD d = true) (hi : (Tryd.prog.info? ty).map (·.size) = some n) (hl : xs.length = n)
    (hk : wpList Tryd.prog ops Q rest (a.put o.dst (.agg (agi xs))) w) : wpList Tryd.prog ops Q (o :: rest) a w := by
  obtain ⟨t, fr, h⟩ := h
  exact Go.BigFrame.wpList_want hw fun K hK => wp_load_row ty x ho g hx t (agi xs) fr d h hu (by cases d <;> first | rfl | (simp [isAggD] at hd)) (by rw [hi, agi_size, hl]) (hK _ _ hk)

/-- The head of the row's list. -/
theorem laid_agg {W : World} {name : String} {zs : List Int} {rest : List (String × DataW Unit)} {ps : List MemPlace} {g : Nat} {t : TypeId} {n : Nat}
    (hg : Tryd.prog.globalNamed name = some g) (hty : (Tryd.prog.globals[g]?).map (·.type) = some t) (ht : Tryd.prog.underlying t = some (.array n 3)) (hce : Tryd.prog.cellsOf 3 = 1) (hct : Tryd.prog.cellsOf t = n)
    (h : DataW.LaidVars Tryd.prog W ((name, Lib.tabData .i64 zs) :: rest) ps) : TabA W g zs ∧ ∃ q, DataW.LaidVars Tryd.prog W rest q := by
  obtain ⟨g', t', cs, fuel, p, q, hg', ht', hvar, hd, hr, _⟩ := h
  obtain rfl := Option.some.inj (hg.symm.trans hg')
  obtain rfl := Option.some.inj (hty.symm.trans ht')
  refine ⟨?_, q, hr⟩
  have hcs := Lib.cells_of_tab ht Tryd.underlying3 hce hct hd
  simp only [World.var?, hg, Option.bind_some] at hvar
  split at hvar
  · rename_i c t fr hb
    cases hvar
    refine ⟨t, fr, ?_⟩
    rw [hb]
    have : cs = agi zs := by
      unfold agi ints
      rw [← hcs]
    rw [this]
  · cases hvar
theorem laid_slice {W : World} {name : String} {zs : List Int} {rest : List (String × DataW Unit)} {ps : List MemPlace} {g : Nat} {t : TypeId}
    (hg : Tryd.prog.globalNamed name = some g) (hty : (Tryd.prog.globals[g]?).map (·.type) = some t) (ht : Tryd.prog.underlying t = some (.slice 3)) (hce : Tryd.prog.cellsOf 3 = 1)
    (h : DataW.LaidVars Tryd.prog W ((name, .slice (zs.map fun z => .lit (.int .i64 z)) []) :: rest) ps) : TabS W g zs ∧ ∃ q, DataW.LaidVars Tryd.prog W rest q := by
  obtain ⟨g', t', cs, fuel, p, q, hg', ht', hvar, hd, hr, _⟩ := h
  obtain rfl := Option.some.inj (hg.symm.trans hg')
  obtain rfl := Option.some.inj (hty.symm.trans ht')
  refine ⟨?_, q, hr⟩
  have hv := World.var?_cell hg hvar 0
  rcases open_ints ht Tryd.underlying3 hce hd with ⟨_, hx⟩ | ⟨a, len, cap, ys, h1, _, hl, hm, hlen, hx, hcell, _⟩
  · simp at hx
  · simp only [Prod.mk.injEq, DataW.slice.injEq] at hx
    obtain ⟨⟨hx1, hx2⟩, _⟩ := hx
    have hz : ys.take len = zs := by
      have h2 : (zs.map fun z => (DataW.lit (.int .i64 z) : DataW Unit)) = (ys.take len).map fun z => DataW.lit (.int .i64 z) := by simpa [lits] using hx1
      exact (List.map_inj_right (fun a b hab => by injection hab with hab; injection hab)).1 h2 |>.symm
    have hle : len ≤ ys.length := by split at hlen <;> omega
    have hzl : zs.length = len := by rw [← hz, List.length_take]; omega
    have hg0 : W.cell? ⟨g, 0, none⟩ = some (.slice (some a) len cap) := by
      rw [hv, Array.eq_one_of_toList h1]; rfl
    refine ⟨some a, cap, World.block_lt_of_cell? W ⟨g, 0, none⟩ hg0, by rw [hzl]; exact hg0, ⟨by simp [ints], fun hn => ⟨a, rfl, ?_, ?_⟩⟩, by omega⟩
    · have := World.block_lt_of_cell? W _ (hcell 0 (by omega))
      rwa [block_of_add] at this
    · intro j u hu
      have hj : j < zs.length := by
        have := (List.getElem?_eq_some_iff.1 hu).1
        simpa [ints] using this
      rw [ints_get _ j hj] at hu
      rw [hcell j (by omega), ← hu, ← hz]
      congr 2
      simp only [List.getD_eq_getElem?_getD, List.getElem?_take]
      rw [if_pos (by omega)]
end Go.Proofs.YtnbenmpjpogldaaDoor
