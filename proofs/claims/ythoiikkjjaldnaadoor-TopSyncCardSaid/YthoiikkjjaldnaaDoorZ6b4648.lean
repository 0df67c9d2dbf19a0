/- Texts that the law rests on, laid together: Row, Tabs, Byt, LevM, LpcM, WeightW, QuiC. -/
import Derived.Test.YthoiikkjjaldnaaDoorZ10bfcc
import Derived.Laws.Tables
import Derived.Deep.WholeRow
import Derived.BigFrame
import Derived.Lib.LaidTab
import Derived.LaidMore
import Derived.MakeChecks
import Derived.WalkKit
import Derived.Test.YthoiikkjjaldnaaDoorRows
import Derived.BigQuiet
import Derived.Deep.QuietTactic
/- A whole array of numbers out of a block, into a block, and one number out of an array. -/
namespace Go.Proofs.YthoiikkjjaldnaaDoor
set_option linter.unusedVariables false
set_option linter.unusedSimpArgs false
set_option maxRecDepth 100000
open Go.RowKit

theorem agi_one (xs : List Int) : (agi xs).all (·.oneCell') = true := by
  rw [Array.all_eq_true_iff_forall_mem]
  intro v hv
  exact ints_one xs v (by simpa [agi] using hv)

section
variable {w : World} {g : Nat} {t ty : TypeId} {xs ys : List Int} {d : TypeDesc} {n : Nat}
theorem IB.load (h : IB w g t xs) (hu : Tryd.prog.underlying ty = some d) (hd : isAggD d = true) (hi : (Tryd.prog.info? ty).map (·.size) = some n) (hl : xs.length = n) :
    (Instr.loadAt ty (.pointer (some ⟨g, 0, none⟩))).run Tryd.prog w = .ok (.agg (agi xs)) w := by
  simp only [Instr.loadAt, Instr.sureAddr, Sem.run_bind, Sem.run_pure, Result.andThen]
  exact run_loadVar_row w g t ty (agi xs) (0, 0) d h hu (by cases d <;> first | rfl | (simp [isAggD] at hd)) (by rw [hi, agi_size, hl])
theorem IB.store (h : IB w g t xs) (hi : (Tryd.prog.info? ty).map (·.size) = some n) (hl : xs.length = n) (hl2 : ys.length = n) :
    (Instr.storeAt ty (.pointer (some ⟨g, 0, none⟩)) (.agg (agi ys))).run Tryd.prog w = .ok () (w.setRow g (agi ys)) := by
  simp only [Instr.storeAt, Instr.sureAddr, Sem.run_bind, Sem.run_pure, Result.andThen]
  exact run_storeVar_row w g t ty (agi xs) (agi ys) h (by rw [hi, agi_size, hl2]) (by rw [agi_size, agi_size, hl, hl2]) (agi_one ys)
theorem IB.setRow (h : IB w g t xs) (ys : List Int) : IB (w.setRow g (agi ys)) g t ys := setRow_heap w g _ _ t _ h
theorem Blk.rowFar {k : Nat} {cs c2 : Array Value} (h : Blk w k t cs) (hne : k ≠ g) : Blk (w.setRow g c2) k t cs := (setRow_other w g k c2 hne).trans h
theorem below_setRow {B : Nat} {a : World} (h : Below B a w) (hg : B ≤ g) (cs : Array Value) : Below B a (w.setRow g cs) :=
  ⟨h.os, h.tape, h.output, by simpa using h.size, fun k hk => (setRow_other w g k cs (by omega)).trans (h.block k hk)⟩
theorem rs_cell {A : Option Addr} {c : Nat} : (Value.slice A 0 c) = .slice A 0 c := rfl
end

theorem IB.cellsFrom {w : World} {g : Nat} {t : TypeId} {xs : List Int} {n : Nat} (h : IB w g t xs) (hl : xs.length = n) :
    (loadCellsFrom ⟨g, 0, none⟩ 0 n #[]).run Tryd.prog w = .ok (agi xs) w := by
  have hn : (agi xs).size = n := by rw [agi_size, hl]
  subst hn
  have := run_loadCells_list (P := Tryd.prog) w ⟨g, 0, none⟩ (agi xs).toList (fun j v hv => by
    have hadd : (⟨g, 0, none⟩ : Addr).add j = ⟨g, j, none⟩ := by unfold Addr.add; split <;> simp_all
    rw [hadd, cell_of_row _ _ j (agi xs) t (0, 0) h]
    simpa using hv)
  simpa [loadCells] using this

/-- The answer of a function whose first result lies in a block. -/
theorem results_row2 {fn : Func} {p q : Tmp} {ty : TypeId} (h : fn.results = #[.cell p ty, .tmp q]) (tmps : Array Value) (w : World) (g : Nat) (t : TypeId) (xs : List Int) (d : TypeDesc) (n : Nat)
    (hp : tmps.getD p undef = .pointer (some ⟨g, 0, none⟩)) (hg : IB w g t xs) (hu : Tryd.prog.underlying ty = some d) (hd : isAggD d = true) (hi : (Tryd.prog.info? ty).map (·.size) = some n) (hl : xs.length = n) :
    (results fn tmps).run Tryd.prog w = .ok (.tuple #[.agg (agi xs), tmps.getD q undef]) w := by
  have hp' : tmps[p]?.getD undef = .pointer (some ⟨g, 0, none⟩) := by simpa using hp
  have hr := run_loadVar_row (P := Tryd.prog) w g t ty (agi xs) (0, 0) d hg hu (by cases d <;> first | rfl | (simp [isAggD] at hd)) (by rw [hi, agi_size, hl])
  simp [results, h, hp', asAddr, hr]
theorem results_row3 {fn : Func} {p q r : Tmp} {ty : TypeId} (h : fn.results = #[.cell p ty, .tmp q, .tmp r]) (tmps : Array Value) (w : World) (g : Nat) (t : TypeId) (xs : List Int) (d : TypeDesc) (n : Nat)
    (hp : tmps.getD p undef = .pointer (some ⟨g, 0, none⟩)) (hg : IB w g t xs) (hu : Tryd.prog.underlying ty = some d) (hd : isAggD d = true) (hi : (Tryd.prog.info? ty).map (·.size) = some n) (hl : xs.length = n) :
    (results fn tmps).run Tryd.prog w = .ok (.tuple #[.agg (agi xs), tmps.getD q undef, tmps.getD r undef]) w := by
  have hp' : tmps[p]?.getD undef = .pointer (some ⟨g, 0, none⟩) := by simpa using hp
  have hr := run_loadVar_row (P := Tryd.prog) w g t ty (agi xs) (0, 0) d hg hu (by cases d <;> first | rfl | (simp [isAggD] at hd)) (by rw [hi, agi_size, hl])
  simp [results, h, hp', asAddr, hr]

/-- The whole array into a block, out of a block, as the walk meets them. -/
theorem wpList_storeI {ops : Array Oper} {rest : List Oper} {o : Oper} {a : Act} {w : World} {Q : Exit → Act → World → Prop} (hgd : o.guard = none) (ty : TypeId) (x y : Operand) (ho : o.op = .store ty x y)
    (g : Nat) (t : TypeId) (xs ys : List Int) (n : Nat) (hx : a.eval x = .pointer (some ⟨g, 0, none⟩)) (hy : a.eval y = .agg (agi ys)) (h : IB w g t xs)
    (hi : (Tryd.prog.info? ty).map (·.size) = some n) (hl : xs.length = n) (hl2 : ys.length = n)
    (k : wpList Tryd.prog ops Q rest (a.put o.dst undef) (w.setRow g (agi ys))) : wpList Tryd.prog ops Q (o :: rest) a w :=
  wpList_store_row hgd ty x y ho g (agi ys) hx hy t (agi xs) h (by rw [hi, agi_size, hl2]) (by rw [agi_size, agi_size, hl, hl2]) (agi_one ys) k
theorem wpList_loadI {ops : Array Oper} {rest : List Oper} {o : Oper} {a : Act} {w : World} {Q : Exit → Act → World → Prop} (hw : Region.wanted o (yielded ops a.tmps) = true) (ty : TypeId) (x : Operand) (ho : o.op = .load ty x)
    (g : Nat) (t : TypeId) (xs : List Int) (n : Nat) (d : TypeDesc) (hx : a.eval x = .pointer (some ⟨g, 0, none⟩)) (h : IB w g t xs) (hu : Tryd.prog.underlying ty = some d) (hd : isAggD d = true)
    (hi : (Tryd.prog.info? ty).map (·.size) = some n) (hl : xs.length = n)
    (k : wpList Tryd.prog ops Q rest (a.put o.dst (.agg (agi xs))) w) : wpList Tryd.prog ops Q (o :: rest) a w :=
  Go.BigFrame.wpList_want hw fun K hK => wp_load_row ty x ho g hx t (agi xs) (0, 0) d h hu (by cases d <;> first | rfl | (simp [isAggD] at hd)) (by rw [hi, agi_size, hl]) (hK _ _ k)

theorem run_index_agi {t : TypeId} {n : Nat} (ht : Tryd.prog.underlying t = some (.array n 3)) (xs : List Int) (hl : xs.length = n) (k : Nat) (hk : k < n) (w : World) :
    (Instr.index t (.agg (agi xs)) (.int .i64 (k : Nat))).run Tryd.prog w = .ok (.int .i64 (xs.getD k 0)) w := by
  have hs : ∀ w, (sizeOf 3).run Tryd.prog w = .ok 1 w := fun w => by kernel_rfl
  have ha : ∀ w, (isAgg 3).run Tryd.prog w = .ok false w := fun w => by kernel_rfl
  have hg := agi_get xs k (by omega)
  simp [Instr.index, asIntOf, run_underlying ht, hk, part, hs, ha, hg]

/-! A row of the call's own, where an elder block is written. -/
theorem Own.ne_ {w : World} {base c g : Nat} {A : Option Addr} {xs : List Int} (h : Own w base A c xs) (hg : g < base) : ∀ ad, A = some ad → ad.block ≠ g := fun ad e => by
  have := (h.lt ad e).1
  omega
theorem Own.setRow {w : World} {base c g : Nat} {A : Option Addr} {xs : List Int} (h : Own w base A c xs) (hg : g < base) (cs : Array Value) : Own (w.setRow g cs) base A c xs :=
  h.kept (row := some g) ⟨rfl, rfl, rfl, by simp [World.setRow], fun i _ hn => setRow_other w g i cs (by intro e; subst e; exact hn rfl)⟩ (fun ad e h2 => by
    injection h2 with h2
    exact h.ne_ hg ad e h2)
theorem Own.setC {w : World} {base c g : Nat} {A : Option Addr} {xs : List Int} (h : Own w base A c xs) (hg : g < base) (i : Nat) (v : Value) : Own (w.setCell ⟨g, i, none⟩ v) base A c xs :=
  h.kept (row := some g) ⟨rfl, rfl, rfl, by simp [World.setCell], fun j _ hn => Below.heap_setCell _ _ _ j (by simpa using hn)⟩ (fun ad e h2 => by
    injection h2 with h2
    exact h.ne_ hg ad e h2)
end Go.Proofs.YthoiikkjjaldnaaDoor

/- Package-level tables of numbers: what the row's list says of them. -/
namespace Go.Proofs.YthoiikkjjaldnaaDoor
set_option linter.unusedVariables false
set_option linter.unusedSimpArgs false
set_option maxRecDepth 100000
open Go.RowKit Go.ChangeShapes

def rootsL : List Int := [444758425, 203159592, 97181937, 47538611, 23511884, 11692281, 5830311, 2911209, 1454619, 727063, 363470, 181719, 90856, 45427, 22713]
def gainsL : List Int := [0, 3277, 6554, 9830, 12452, 14746, 16384, 18022]
def widthL : List Int := [6, 6, 5, 5, 4, 4, 3, 3]

/-- Block g is an array of these numbers. -/
def TabA (w : World) (g : Nat) (zs : List Int) : Prop := ∃ t fr, w.heap[g]? = some (.cells (agi zs) t fr)
/-- Block g is a slice of these numbers. -/
def TabS (w : World) (g : Nat) (zs : List Int) : Prop := ∃ A c, g < w.heap.size ∧ w.cell? ⟨g, 0, none⟩ = some (.slice A zs.length c) ∧ Rs w w.heap.size A zs ∧ zs.length ≤ c
section
variable {w w' : World} {g : Nat} {zs : List Int}
theorem TabA.lt (h : TabA w g zs) : g < w.heap.size := by
  obtain ⟨t, fr, h⟩ := h
  rcases Nat.lt_or_ge g w.heap.size with hlt | hge
  · exact hlt
  · rw [Array.getElem?_eq_none hge] at h; cases h
theorem TabA.cell (h : TabA w g zs) (i : Nat) (hi : i < zs.length) : w.cell? ⟨g, i, none⟩ = some (.int .i64 (zs.getD i 0)) := by
  obtain ⟨t, fr, h⟩ := h
  exact (cell_of_row w g i _ t fr h).trans (agi_get zs i hi)
theorem TabA.below (h : TabA w g zs) (hb : Below w.heap.size w w') : TabA w' g zs := by
  obtain ⟨t, fr, h1⟩ := h
  exact ⟨t, fr, (hb.block g (TabA.lt ⟨t, fr, h1⟩)).trans h1⟩
theorem TabS.below (h : TabS w g zs) (hb : Below w.heap.size w w') : TabS w' g zs := by
  obtain ⟨A, c, h0, h1, h2, h3⟩ := h
  have := hb.size
  exact ⟨A, c, by omega, (hb.cell (p := ⟨g, 0, none⟩) h0).trans h1, (h2.below hb).more this, h3⟩
theorem TabA.below' {B : Nat} (h : TabA w g zs) (hb : Below B w w') (hB : w.heap.size ≤ B) : TabA w' g zs := h.below (hb.mono hB)
theorem TabS.below' {B : Nat} (h : TabS w g zs) (hb : Below B w w') (hB : w.heap.size ≤ B) : TabS w' g zs := h.below (hb.mono hB)
/-- A cell of the slice. -/
theorem TabS.form (h : TabS w g zs) : ∃ A c, w.cell? ⟨g, 0, none⟩ = some (.slice A zs.length c) ∧ zs.length ≤ c ∧ ∀ k, k < zs.length → ∃ ad, A = some ad ∧ w.cell? (ad.add k) = some (.int .i64 (zs.getD k 0)) := by
  obtain ⟨A, c, _, h1, h2, h3⟩ := h
  refine ⟨A, c, h1, h3, fun k hk => ?_⟩
  obtain ⟨ad, e, _, hc⟩ := h2.at_ hk
  exact ⟨ad, e, hc⟩
end

/-- A whole table, loaded. -/
theorem wpList_loadT {ops : Array Oper} {rest : List Oper} {o : Oper} {a : Act} {w : World} {Q : Exit → Act → World → Prop} (hw : Region.wanted o (yielded ops a.tmps) = true) (ty : TypeId) (x : Operand) (ho : o.op = .load ty x)
    (g : Nat) (xs : List Int) (n : Nat) (d : TypeDesc) (hx : a.eval x = .pointer (some ⟨g, 0, none⟩)) (h : TabA w g xs) (hu : Tryd.prog.underlying ty = some d) (hd : isAggD d = true) (hi : (Tryd.prog.info? ty).map (·.size) = some n) (hl : xs.length = n)
    (hk : wpList Tryd.prog ops Q rest (a.put o.dst (.agg (agi xs))) w) : wpList Tryd.prog ops Q (o :: rest) a w := by
  obtain ⟨t, fr, h⟩ := h
  exact Go.BigFrame.wpList_want hw fun K hK => wp_load_row ty x ho g hx t (agi xs) fr d h hu (by cases d <;> first | rfl | (simp [isAggD] at hd)) (by rw [hi, agi_size, hl]) (hK _ _ hk)

/-- The head of the row's list. -/
theorem laid_agg {W : World} {name : String} {zs : List Int} {rest : List (String × DataW Unit)} {ps : List MemPlace} {g : Nat} {t : TypeId} {n : Nat}
    (hg : Tryd.prog.globalNamed name = some g) (hty : (Tryd.prog.globals[g]?).map (·.type) = some t) (ht : Tryd.prog.underlying t = some (.array n 3)) (hce : Tryd.prog.cellsOf 3 = 1) (hct : Tryd.prog.cellsOf t = n)
    (h : DataW.LaidVars Tryd.prog W ((name, Lib.tabData .i64 zs) :: rest) ps) : TabA W g zs ∧ ∃ q, DataW.LaidVars Tryd.prog W rest q := by
  obtain ⟨g', t', cs, fuel, p, q, hg', ht', hvar, hd, hr, _⟩ := h
  obtain rfl := Option.some.inj (hg.symm.trans hg')
  obtain rfl := Option.some.inj (hty.symm.trans ht')
  refine ⟨?_, q, hr⟩
  have hcs := Lib.cells_of_tab ht Tryd.underlying3 hce hct hd
  simp only [World.var?, hg, Option.bind_some] at hvar
  split at hvar
  · rename_i c t fr hb
    cases hvar
    refine ⟨t, fr, ?_⟩
    rw [hb]
    have : cs = agi zs := by
      unfold agi ints
      rw [← hcs]
    rw [this]
  · cases hvar
theorem laid_slice {W : World} {name : String} {zs : List Int} {rest : List (String × DataW Unit)} {ps : List MemPlace} {g : Nat} {t : TypeId}
    (hg : Tryd.prog.globalNamed name = some g) (hty : (Tryd.prog.globals[g]?).map (·.type) = some t) (ht : Tryd.prog.underlying t = some (.slice 3)) (hce : Tryd.prog.cellsOf 3 = 1)
    (h : DataW.LaidVars Tryd.prog W ((name, .slice (zs.map fun z => .lit (.int .i64 z)) []) :: rest) ps) : TabS W g zs ∧ ∃ q, DataW.LaidVars Tryd.prog W rest q := by
  obtain ⟨g', t', cs, fuel, p, q, hg', ht', hvar, hd, hr, _⟩ := h
  obtain rfl := Option.some.inj (hg.symm.trans hg')
  obtain rfl := Option.some.inj (hty.symm.trans ht')
  refine ⟨?_, q, hr⟩
  have hv := World.var?_cell hg hvar 0
  rcases open_ints ht Tryd.underlying3 hce hd with ⟨_, hx⟩ | ⟨a, len, cap, ys, h1, _, hl, hm, hlen, hx, hcell, _⟩
  · simp at hx
  · simp only [Prod.mk.injEq, DataW.slice.injEq] at hx
    obtain ⟨⟨hx1, hx2⟩, _⟩ := hx
    have hz : ys.take len = zs := by
      have h2 : (zs.map fun z => (DataW.lit (.int .i64 z) : DataW Unit)) = (ys.take len).map fun z => DataW.lit (.int .i64 z) := by simpa [lits] using hx1
      exact (List.map_inj_right (fun a b hab => by injection hab with hab; injection hab)).1 h2 |>.symm
    have hle : len ≤ ys.length := by split at hlen <;> omega
    have hzl : zs.length = len := by rw [← hz, List.length_take]; omega
    have hg0 : W.cell? ⟨g, 0, none⟩ = some (.slice (some a) len cap) := by
      rw [hv, Array.eq_one_of_toList h1]; rfl
    refine ⟨some a, cap, World.block_lt_of_cell? W ⟨g, 0, none⟩ hg0, by rw [hzl]; exact hg0, ⟨by simp [ints], fun hn => ⟨a, rfl, ?_, ?_⟩⟩, by omega⟩
    · have := World.block_lt_of_cell? W _ (hcell 0 (by omega))
      rwa [block_of_add] at this
    · intro j u hu
      have hj : j < zs.length := by
        have := (List.getElem?_eq_some_iff.1 hu).1
        simpa [ints] using this
      rw [ints_get _ j hj] at hu
      rw [hcell j (by omega), ← hu, ← hz]
      congr 2
      simp only [List.getD_eq_getElem?_getD, List.getElem?_take]
      rw [if_pos (by omega)]
end Go.Proofs.YthoiikkjjaldnaaDoor

/- Slices of bytes; a call of a desk as an argument. -/
namespace Go.Proofs.YthoiikkjjaldnaaDoor
set_option linter.unusedVariables false
set_option linter.unusedSimpArgs false
set_option maxRecDepth 100000
open Go.RowKit

def bts (xs : List Int) : List Value := xs.map (Value.int .u8)
theorem bts_len (xs : List Int) : (bts xs).length = xs.length := by simp [bts]
theorem bts_get (xs : List Int) (k : Nat) (h : k < xs.length) : (bts xs)[k]? = some (.int .u8 (xs.getD k 0)) := by simp [bts, h]
theorem bts_one (xs : List Int) : ∀ u ∈ bts xs, u.oneCell' = true := ints_oneCell .u8 xs
theorem bts_append (xs ys : List Int) : bts xs ++ bts ys = bts (xs ++ ys) := by simp [bts]
/-- A slice of bytes that reads. -/
def Rb (w : World) (B : Nat) (A : Option Addr) (xs : List Int) : Prop := Reads w B 1 A xs.length (bts xs)
/-- A row of bytes of a call's own. -/
def OwnB (w : World) (base : Nat) (A : Option Addr) (c : Nat) (xs : List Int) : Prop := w.ownsRow base 5 1 (.slice A xs.length c) xs.length (bts xs)
theorem infoB : (Tryd.prog.info? 5).map (fun i => (i.zero, i.size, i.bytes)) = some (some (.int .u8 0), 1, 1) := by kernel_rfl
section
variable {w w' : World} {B B' : Nat} {A : Option Addr} {xs : List Int}
theorem Rb.below (h : Rb w B A xs) (hb : Below B w w') : Rb w' B A xs := Reads.below h hb
theorem Rb.more (h : Rb w B A xs) (hB : B ≤ B') : Rb w B' A xs := Reads.more h hB
theorem Rb.at_ {k : Nat} (h : Rb w B A xs) (hk : k < xs.length) : ∃ ad, A = some ad ∧ ad.block < B ∧ w.cell? (ad.add k) = some (.int .u8 (xs.getD k 0)) := by
  obtain ⟨ad, e, hb, hc⟩ := h.2 (by omega)
  exact ⟨ad, e, hb, hc k _ (bts_get xs k hk)⟩
theorem Rb.ad (h : Rb w B A xs) (hk : 0 < xs.length) : ∃ ad, A = some ad ∧ ad.block < B ∧ ∀ k, k < xs.length → w.cell? (ad.add k) = some (.int .u8 (xs.getD k 0)) := by
  obtain ⟨ad, e, hb, hc⟩ := h.2 hk
  exact ⟨ad, e, hb, fun k hk => hc k _ (bts_get xs k hk)⟩
theorem Rb.nil : Rb w B A [] := Reads.none_
theorem OwnB.nil {base : Nat} : OwnB w base none 0 [] := World.ownsRow_nil w base _ _
theorem OwnB.reads {base c : Nat} (h : OwnB w base A c xs) : Rb w w.heap.size A xs := Reads.of_own h
theorem OwnB.below {base c : Nat} (h : OwnB w base A c xs) (hb : Below w.heap.size w w') : OwnB w' base A c xs :=
  World.ownsRow.kept h (row := none) ⟨hb.os, hb.tape, hb.output, hb.size, fun k hk _ => hb.block k hk⟩ (by cases A <;> simp [Value.ownBlock])
theorem OwnB.cap {base c : Nat} (h : OwnB w base A c xs) : xs.length ≤ c ∧ c ≤ 9223372036854775807 := by
  rcases h.2 with ⟨hv, hn⟩ | ⟨g, cap, cur, hv, hb, hg, h1, h2, _⟩
  · injection hv with _ _ hc
    omega
  · injection hv with _ _ hc
    unfold maxLen at h2
    omega
theorem OwnB.lt {base c : Nat} (h : OwnB w base A c xs) : ∀ a, A = some a → base ≤ a.block ∧ a.block < w.heap.size := fun a ha => by
  subst ha
  exact World.ownsRow.lt h a.block rfl
theorem OwnB.ne_ {base c g : Nat} (h : OwnB w base A c xs) (hg : g < base) : ∀ ad, A = some ad → ad.block ≠ g := fun ad e => by
  have := (h.lt ad e).1
  omega
end
theorem own_formB {w : World} {base n : Nat} {v : Value} {vs : List Value} {ys : List Int} (h : w.ownsRow base 5 1 v n vs) (hv : vs = bts ys) : ∃ A c, v = .slice A ys.length c ∧ OwnB w base A c ys := by
  subst hv
  have hl : ys.length = n := by have := h.1; simpa [bts] using this
  subst hl
  rcases h.2 with ⟨hv, hn⟩ | ⟨g, cap, cur, hv, rest⟩
  · subst hv
    refine ⟨none, 0, by rw [hn], ?_⟩
    unfold OwnB
    rw [hn] at h ⊢
    exact h
  · subst hv
    exact ⟨_, _, rfl, h⟩
/-- append of bytes that read. -/
theorem wpList_catB {ops : Array Oper} {rest : List Oper} {o : Oper} {a : Act} {w : World} {Q : Exit → Act → World → Prop} (hgd : o.guard = none) (s x : Operand)
    (ho : o.op = .call { callee := .builtin .append, args := #[s, x], argTypes := #[39, 39] })
    (base : Nat) (A : Option Addr) (c n : Nat) (xs : List Int) (hs : a.eval s = .slice A n c) (hn : xs.length = n) (hown : OwnB w base A c xs)
    (B : Nat) (A2 : Option Addr) (c2 m : Nat) (ys : List Int) (hx : a.eval x = .slice A2 m c2) (hm : ys.length = m) (hr : Rb w B A2 ys) (hlen : n + m ≤ 140737488355328) (hbase : base ≤ w.heap.size)
    (h : ∀ A' c' w', OwnB w' base A' c' (xs ++ ys) → w.grownBy w' (A.map (·.block)) → wpList Tryd.prog ops Q rest (a.put o.dst (.slice A' (n + m) c')) w') : wpList Tryd.prog ops Q (o :: rest) a w := by
  subst hn
  subst hm
  obtain ⟨i0, hi, hz0, hz1, hz2⟩ := info_parts infoB
  refine wpList_plain hgd fun K hK => ?_
  obtain ⟨v', w', hrun, h2, h3, h4⟩ := run_append_any (P := Tryd.prog) w base 39 o.type 5 i0 (.int .u8 0) 1 1 Tryd.underlying39 hi hz0 hz1 hz2 rfl (by omega) _ _ _ hown B A2 ys.length c2 (bts ys) hr (bts_one ys) (by unfold maxLen; omega) (by omega) hbase
  obtain ⟨A', c', rfl, hO⟩ := own_formB h2 (bts_append xs ys)
  have hl : (xs ++ ys).length = xs.length + ys.length := by simp
  unfold Oper.wp execOp
  simp only [ho, resolve, invoke, builtin, Sem.run_bind, Sem.run_pure, Result.andThen_ok, List.map_toArray, List.map_cons, List.map_nil, hs, hx, hrun]
  refine hK _ _ ?_
  rw [hl]
  exact h A' c' w' hO (by cases A <;> exact h3)

/-! What an argument of slices holds. -/
section
open Go.ChangeShapes
variable {H : Type} {enc : TypeId × Value → H} {P : Program} {w : World}
/-- A slice of numbers read at any place. -/
theorem slice_reads {t e : TypeId} {k : IntKind} {A : Option Addr} {n c fuel : Nat} {d : DataW H} {ps : List MemPlace} (ht : P.underlying t = some (.slice e)) (he : P.underlying e = some (.int k)) (hc : P.cellsOf e = 1)
    (h : DataW.trod enc P w 0 (fun _ => true) true fuel t [.slice A n c] = some (d, ps)) (hd : ∀ x ∈ d.weights P t, x ≤ reachBytes) :
    ∃ xs : List Int, xs.length = n ∧ n ≤ c ∧ c * P.bytesOf e ≤ 140737488351232 ∧ Reads w w.heap.size 1 A n (xs.map (Value.int k)) ∧ ∀ x ∈ xs, k.has x := by
  rcases open_ints ht he hc h with ⟨h1, _⟩ | ⟨a, len, cap, zs, h1, _, hl, hm, hlen, hx, hcell, hwf⟩
  · simp only [List.cons.injEq, Value.slice.injEq, and_true] at h1
    obtain ⟨rfl, rfl, rfl⟩ := h1
    exact ⟨[], rfl, by omega, by omega, Reads.none_, by intro x hx; simp at hx⟩
  · simp only [List.cons.injEq, Value.slice.injEq, and_true] at h1
    obtain ⟨rfl, rfl, rfl⟩ := h1
    simp only [if_true] at hlen
    simp only [Prod.mk.injEq] at hx
    obtain ⟨rfl, _⟩ := hx
    have htl : (zs.take n).length = n := by rw [List.length_take]; omega
    have hwt := hd (((lits k (zs.take n)).length + (lits k (zs.drop n) : List (DataW H)).length) * P.bytesOf e) (by simp only [DataW.weights, ht]; exact List.mem_cons_self ..)
    simp only [lits, List.length_map, List.length_take, List.length_drop, reachBytes] at hwt
    have hcc : min n zs.length + (zs.length - n) = c := by omega
    rw [hcc] at hwt
    refine ⟨zs.take n, htl, by omega, hwt, ⟨by rw [List.length_map, htl, Nat.mul_one], fun hn => ⟨a, rfl, ?_, ?_⟩⟩, ?_⟩
    · have := World.block_lt_of_cell? w _ (hcell 0 (by omega))
      rwa [block_of_add] at this
    · intro j u hu
      have hj : j < n := by
        have := (List.getElem?_eq_some_iff.1 hu).1
        rwa [List.length_map, htl] at this
      rw [hcell j (by omega), ← hu, List.getElem?_map, List.getElem?_take, if_pos hj, List.getElem?_eq_getElem (by omega)]
      simp [List.getD_eq_getElem?_getD, (show j < zs.length by omega)]
    · intro x hx
      have := hwf x (List.mem_of_mem_take hx)
      simpa [Lit.wf, IntKind.has] using this
end
end Go.Proofs.YthoiikkjjaldnaaDoor

/- Plain facts on predictors that grow by reflections, and the recursion that finds the reflections. No program in sight. -/
namespace Go.Proofs.YthoiikkjjaldnaaDoor
set_option linter.unusedVariables false
set_option linter.unusedSimpArgs false
set_option maxRecDepth 100000

/-- The sum of the first n. -/
def sumN (f : Nat → Int) : Nat → Int
  | 0 => 0
  | n + 1 => sumN f n + f n
theorem sumN_congr {f g : Nat → Int} (n : Nat) (h : ∀ i, i < n → f i = g i) : sumN f n = sumN g n := by
  induction n with
  | zero => rfl
  | succ n ih => simp only [sumN]; rw [ih (fun i hi => h i (by omega)), h n (by omega)]
theorem sumN_bound {f : Nat → Int} {B : Int} (n : Nat) (h : ∀ i, i < n → -B ≤ f i ∧ f i ≤ B) : -(B * n) ≤ sumN f n ∧ sumN f n ≤ B * n := by
  induction n with
  | zero => simp [sumN]
  | succ n ih =>
    have h1 := ih (fun i hi => h i (by omega))
    have h2 := h n (by omega)
    have e : B * ((n + 1 : Nat) : Int) = B * (n : Int) + B := by rw [Int.natCast_succ, Int.mul_add, Int.mul_one]
    rw [e]
    simp only [sumN]
    omega

theorem mul_bound {x y X Y : Int} (hX : 0 ≤ X) (hY : 0 ≤ Y) (hx : -X ≤ x ∧ x ≤ X) (hy : -Y ≤ y ∧ y ≤ Y) : -(X * Y) ≤ x * y ∧ x * y ≤ X * Y := by
  have h : (x * y).natAbs ≤ X.natAbs * Y.natAbs := by
    rw [Int.natAbs_mul]
    exact Nat.mul_le_mul (by omega) (by omega)
  have e : ((X.natAbs * Y.natAbs : Nat) : Int) = X * Y := by
    rw [Int.natCast_mul, Int.natAbs_of_nonneg hX, Int.natAbs_of_nonneg hY]
  omega

/-- A predictor of m numbers with one reflection more. -/
def growL (a : List Int) (q : Int) (m : Nat) : List Int := (List.range (m + 1)).map fun i => if i = 0 then a.getD 0 0 else a.getD i 0 + q * a.getD (m - i) 0 / 32768
theorem growL_len (a : List Int) (q : Int) (m : Nat) : (growL a q m).length = m + 1 := by simp [growL]
theorem growL_get (a : List Int) (q : Int) (m i : Nat) (h : i ≤ m) : (growL a q m).getD i 0 = if i = 0 then a.getD 0 0 else a.getD i 0 + q * a.getD (m - i) 0 / 32768 := by
  unfold growL
  rw [List.getD_eq_getElem?_getD, List.getElem?_map, List.getElem?_range (by omega)]
  rfl

/-- All numbers within B. -/
def Within (B : Int) (a : List Int) : Prop := ∀ i, -B ≤ a.getD i 0 ∧ a.getD i 0 ≤ B
theorem Within.grow {B : Int} {a : List Int} {q : Int} {m : Nat} (hB : 0 ≤ B) (h : Within B a) (hq : -32768 ≤ q ∧ q ≤ 32768) : Within (2 * B) (growL a q m) := by
  intro i
  by_cases hi : i ≤ m
  · rw [growL_get a q m i hi]
    have h0 := h 0
    have h1 := h i
    have h2 := h (m - i)
    split
    · omega
    · have h3 := mul_bound (X := 32768) (by omega) hB hq h2
      omega
  · rw [List.getD_eq_getElem?_getD, List.getElem?_eq_none (by rw [growL_len]; omega)]
    simp
    omega

/-- What a step sums. -/
def lacc (a r : List Int) (m : Nat) : Int := sumN (fun i => a.getD i 0 / 512 * r.getD (m - i) 0 / 32768) m
/-- The reflections: so many rounds are to come; m numbers in a; k what has been found. -/
def lev (r : List Int) : Nat → Nat → List Int → Int → List Int → List Int × Int × Bool
  | 0, _, _, e, k => (k, e, true)
  | f + 1, m, a, e, k =>
    if (-lacc a r m * 32768).tdiv e ≤ -32000 ∨ 32000 ≤ (-lacc a r m * 32768).tdiv e then (k, e, false)
    else if e - e * (-lacc a r m * 32768).tdiv e / 32768 * (-lacc a r m * 32768).tdiv e / 32768 ≤ 0 then (k ++ [(-lacc a r m * 32768).tdiv e], 0, false)
    else lev r f (m + 1) (growL a ((-lacc a r m * 32768).tdiv e) m) (e - e * (-lacc a r m * 32768).tdiv e / 32768 * (-lacc a r m * 32768).tdiv e / 32768) (k ++ [(-lacc a r m * 32768).tdiv e])

theorem lev_zero (r : List Int) (m : Nat) (a : List Int) (e : Int) (k : List Int) : lev r 0 m a e k = (k, e, true) := rfl
theorem lev_step (r : List Int) (f m : Nat) (a : List Int) (e : Int) (k : List Int) (q e' : Int) (hq : q = (-lacc a r m * 32768).tdiv e) (he : e' = e - e * q / 32768 * q / 32768) :
    lev r (f + 1) m a e k = if q ≤ -32000 ∨ 32000 ≤ q then (k, e, false) else if e' ≤ 0 then (k ++ [q], 0, false) else lev r f (m + 1) (growL a q m) e' (k ++ [q]) := by
  subst he hq
  rfl

theorem lacc_bound {a r : List Int} {m : Nat} (ha : Within 4294967296 a) (hr : Within 2147483647 r) (hm : m ≤ 8) : -4398046511104 ≤ lacc a r m ∧ lacc a r m ≤ 4398046511104 := by
  have h := sumN_bound (f := fun i => a.getD i 0 / 512 * r.getD (m - i) 0 / 32768) (B := 549755813888) m (fun i hi => by
    have h1 := ha i
    have h2 := hr (m - i)
    have h3 := mul_bound (x := a.getD i 0 / 512) (X := 8388608) (y := r.getD (m - i) 0) (Y := 2147483647) (by omega) (by omega) (by omega) h2
    omega)
  unfold lacc
  have : (549755813888 : Int) * m ≤ 549755813888 * 8 := by omega
  omega

theorem tdiv_bound {x e : Int} (he : 0 < e) : -(x.natAbs : Int) ≤ x.tdiv e ∧ x.tdiv e ≤ x.natAbs := by
  have h : (x.tdiv e).natAbs ≤ x.natAbs := by rw [Int.natAbs_tdiv]; exact Nat.div_le_self _ _
  omega

theorem less_left {e q : Int} (he : 0 ≤ e) : 0 ≤ e * q / 32768 * q / 32768 := by
  have h : 0 ≤ e * q / 32768 * q := by
    rcases Int.le_total 0 q with hq | hq
    · exact Int.mul_nonneg (by have := Int.mul_nonneg he hq; omega) hq
    · have h1 : e * q ≤ 0 := Int.mul_nonpos_of_nonneg_of_nonpos he hq
      have h2 : e * q / 32768 ≤ 0 := by omega
      have h3 : e * q / 32768 * q = (-(e * q / 32768)) * (-q) := by rw [Int.neg_mul_neg]
      rw [h3]
      exact Int.mul_nonneg (by omega) (by omega)
  omega
theorem e_bound {e q : Int} (h0 : 0 < e) (h1 : e ≤ 2147483647) (hq : -32000 < q) (hq2 : q < 32000) :
    (-70368744144896 ≤ e * q ∧ e * q ≤ 70368744144896) ∧ (-70368744144896 ≤ e * q / 32768 * q ∧ e * q / 32768 * q ≤ 70368744144896) ∧ e - e * q / 32768 * q / 32768 ≤ e ∧ -2147483648 ≤ e - e * q / 32768 * q / 32768 := by
  have h2 := mul_bound (x := e) (X := 2147483647) (y := q) (Y := 32000) (by omega) (by omega) (by omega) (by omega)
  have h3 := mul_bound (x := e * q / 32768) (X := 2147483648) (y := q) (Y := 32000) (by omega) (by omega) (by omega) (by omega)
  have h4 := less_left (e := e) (q := q) (by omega)
  omega

/-- Numbers and noughts behind them, n in all. -/
def padTo (n : Nat) (k : List Int) : List Int := k ++ List.replicate (n - k.length) 0
theorem padTo_len {n : Nat} {k : List Int} (h : k.length ≤ n) : (padTo n k).length = n := by simp [padTo]; omega
theorem padTo_get {n : Nat} {k : List Int} (i : Nat) : (padTo n k).getD i 0 = k.getD i 0 := by
  unfold padTo
  simp only [List.getD_eq_getElem?_getD]
  by_cases hi : i < k.length
  · rw [List.getElem?_append_left hi]
  · rw [List.getElem?_append_right (by omega), List.getElem?_eq_none (l := k) (by omega)]
    cases h : (List.replicate (n - k.length) (0 : Int))[i - k.length]? with
    | none => rfl
    | some x =>
      have := List.mem_of_getElem? h
      have := List.eq_of_mem_replicate this
      subst this; rfl
theorem padTo_snoc {n : Nat} {k : List Int} (q : Int) (h : k.length < n) : padTo n (k ++ [q]) = (padTo n k).set k.length q := by
  unfold padTo
  obtain ⟨d, hd⟩ : ∃ d, n - k.length = d + 1 := ⟨n - k.length - 1, by omega⟩
  rw [List.length_append, List.length_singleton, hd, show n - (k.length + 1) = d from by omega, List.replicate_succ, List.set_append_right _ _ (Nat.le_refl _)]
  simp
end Go.Proofs.YthoiikkjjaldnaaDoor

/- Plain facts on reflections and predictors. No program in sight. -/
namespace Go.Proofs.YthoiikkjjaldnaaDoor
set_option linter.unusedVariables false
set_option linter.unusedSimpArgs false
set_option maxRecDepth 100000

/-- May these be reflections? -/
def okR (q : Int) : Bool := decide (-32768 < q ∧ q < 32768)
def steadyB (k : List Int) : Bool := k.all okR
theorem okR_yes {q : Int} (h1 : -32768 < q) (h2 : q < 32768) : okR q = true := by unfold okR; simp; omega
theorem okR_no {q : Int} (h : q ≤ -32768 ∨ 32768 ≤ q) : okR q = false := by unfold okR; simp; omega
theorem steadyB_at {k : List Int} (h : steadyB k = true) (i : Nat) : -32768 < k.getD i 0 ∧ k.getD i 0 < 32768 := by
  unfold steadyB at h
  rw [List.getD_eq_getElem?_getD]
  cases hi : k[i]? with
  | none => simp
  | some x =>
    have := List.all_eq_true.1 h x (List.mem_of_getElem? hi)
    unfold okR at this
    simpa using this
/-- The first i of a list. -/
def allTo (p : Int → Bool) (l : List Int) (i : Nat) : Prop := ∀ j, j < i → p (l.getD j 0) = true
theorem allTo.zero {p : Int → Bool} {l : List Int} : allTo p l 0 := fun j h => by omega
theorem allTo.succ {p : Int → Bool} {l : List Int} {i : Nat} (h : allTo p l i) (h2 : p (l.getD i 0) = true) : allTo p l (i + 1) := fun j hj => by
  by_cases he : j = i
  · subst he; exact h2
  · exact h j (by omega)
theorem allTo.all {p : Int → Bool} {l : List Int} {i : Nat} (h : allTo p l i) (hl : l.length ≤ i) : l.all p = true := by
  rw [List.all_eq_true]
  intro x hx
  obtain ⟨j, hj⟩ := List.getElem?_of_mem hx
  have hlt := (List.getElem?_eq_some_iff.1 hj).1
  have := h j (by omega)
  rw [List.getD_eq_getElem?_getD, hj] at this
  exact this
theorem all_no {p : Int → Bool} {l : List Int} {i : Nat} (hi : i < l.length) (h : p (l.getD i 0) = false) : l.all p = false := by
  rw [Bool.eq_false_iff]
  intro hc
  have := List.all_eq_true.1 hc (l.getD i 0) (by rw [List.getD_eq_getElem?_getD, List.getElem?_eq_getElem hi]; exact List.getElem_mem hi)
  rw [h] at this
  cases this
theorem all_at {p : Int → Bool} {l : List Int} (h : l.all p = true) (i : Nat) (hi : i < l.length) : p (l.getD i 0) = true :=
  List.all_eq_true.1 h _ (by rw [List.getD_eq_getElem?_getD, List.getElem?_eq_getElem hi]; exact List.getElem_mem hi)

/-! Mix. -/
def mixE (a b : List Int) (num : Int) (i : Nat) : Int := (a.getD i 0 * (4 - num) + b.getD i 0 * num).tdiv 4
def mixB (a b : List Int) (num : Int) : Bool := decide (0 ≤ num ∧ num ≤ 4) && (steadyB a && steadyB b)
def mixL (a b : List Int) (num : Int) : List Int := if mixB a b num then (List.range 8).map (mixE a b num) else List.replicate 8 0
def errOf (b : Bool) : Int := if b then 0 else 2
theorem mixL_len (a b : List Int) (num : Int) : (mixL a b num).length = 8 := by unfold mixL; split <;> simp
theorem mix_sum {x y n : Int} (hx : -32768 < x ∧ x < 32768) (hy : -32768 < y ∧ y < 32768) (hn : 0 ≤ n ∧ n ≤ 4) : -262144 ≤ x * (4 - n) ∧ x * (4 - n) ≤ 262144 ∧ -262144 ≤ y * n ∧ y * n ≤ 262144 := by
  have h1 := mul_bound (x := x) (X := 32768) (y := 4 - n) (Y := 4) (by omega) (by omega) (by omega) (by omega)
  have h2 := mul_bound (x := y) (X := 32768) (y := n) (Y := 4) (by omega) (by omega) (by omega) (by omega)
  omega

/-! Expand. -/
def exF (g : Int) : Nat → Int
  | 0 => 32768
  | i + 1 => (exF g i * g + 16384) / 32768
theorem exF_range {g : Int} (h0 : 0 ≤ g) (h1 : g ≤ 32768) (i : Nat) : 0 ≤ exF g i ∧ exF g i ≤ 32768 := by
  induction i with
  | zero => exact ⟨by simp [exF], by simp [exF]⟩
  | succ i ih =>
    have h2 := mul_bound (x := exF g i) (X := 32768) (y := g) (Y := 32768) (by omega) (by omega) (by omega) (by omega)
    have h3 := Int.mul_nonneg ih.1 h0
    simp only [exF]
    omega
def exE (a : List Int) (g : Int) (i : Nat) : Int := (a.getD i 0 * exF g i + 16384) / 32768
def okA (x : Int) : Bool := decide (-1073741824 ≤ x ∧ x ≤ 1073741824)
def exB (a : List Int) (g : Int) : Bool := decide (0 ≤ g ∧ g ≤ 32768) && a.all okA
def exL (a : List Int) (g : Int) : List Int := if exB a g then (List.range 9).map (exE a g) else List.replicate 9 0
theorem exL_len (a : List Int) (g : Int) : (exL a g).length = 9 := by unfold exL; split <;> simp

/-! Direct. -/
/-- The predictor of the first so many reflections. -/
def dirN (k : List Int) : Nat → List Int
  | 0 => [16777216]
  | m + 1 => growL (dirN k m) (k.getD m 0) (m + 1)
theorem dirN_len (k : List Int) (m : Nat) : (dirN k m).length = m + 1 := by
  cases m with
  | zero => rfl
  | succ m => simp [dirN, growL_len]
theorem dirN_within {k : List Int} (h : ∀ i, -32768 ≤ k.getD i 0 ∧ k.getD i 0 ≤ 32768) (m : Nat) : Within (16777216 * 2 ^ m) (dirN k m) := by
  induction m with
  | zero =>
    intro i
    simp only [dirN]
    match i with
    | 0 => simp
    | i + 1 => simp
  | succ m ih =>
    have h2 := Within.grow (m := m + 1) (by have : (0 : Int) < 2 ^ m := Int.pow_pos (by decide); omega) ih (h m)
    have e : (16777216 : Int) * 2 ^ (m + 1) = 2 * (16777216 * 2 ^ m) := by rw [Int.pow_succ]; omega
    rw [e]
    exact h2
def dirL (k : List Int) : List Int := if steadyB k then (List.range 9).map (fun i => ((dirN k 8).getD i 0 + 2048) / 4096) else List.replicate 9 0
theorem dirL_len (k : List Int) : (dirL k).length = 9 := by unfold dirL; split <;> simp
end Go.Proofs.YthoiikkjjaldnaaDoor

/- The walk of the law FrontWeights. -/
namespace Go.Proofs.YthoiikkjjaldnaaDoor
set_option linter.unusedVariables false
set_option linter.unusedSimpArgs false
set_option maxRecDepth 100000
open Go.RowKit

theorem hidW {p : Prop} (h : p) : Hid p := h

/-- The window's number at a place. -/
def wgt (i : Int) : Int := if i < 0 ∨ 120 ≤ i then 0 else 32767 * min (2 * i + 1) (239 - 2 * i) / 119

theorem wgt_out {i : Int} (h : i < 0 ∨ 120 ≤ i) : wgt i = 0 := by unfold wgt; rw [if_pos h]
theorem wgt_low {i : Int} (h0 : 0 ≤ i) (h : i < 60) : wgt i = 32767 * (2 * i + 1) / 119 := by
  unfold wgt; rw [if_neg (by omega), Int.min_eq_left (by omega)]
theorem wgt_high {i : Int} (h0 : 60 ≤ i) (h : i < 120) : wgt i = 32767 * (239 - 2 * i) / 119 := by
  unfold wgt; rw [if_neg (by omega), Int.min_eq_right (by omega)]
theorem wgt_turn {i : Int} (h0 : 60 ≤ i) (h : i < 120) : wgt (119 - i) = wgt i := by
  rw [wgt_high h0 h, wgt_low (by omega) (by omega)]
  congr 1; omega

set_option maxHeartbeats 1000000 in
theorem weight_any (i : Int) (w : World) : Calls Tryd.prog 44 #[.int .i64 i] w fun e w' => e = .returned (.int .i64 (wgt i)) ∧ w = w' := by
  by_cases h1 : i < 0
  · rw [wgt_out (.inl h1)]
    go_enter Tryd.func44, Tryd.ntmps44
    go_wp2
    go_ret
    exact ⟨rfl, rfl⟩
  by_cases h2 : 120 ≤ i
  · rw [wgt_out (.inr h2)]
    have hd : decide (i < 0) = false := by simpa using h1
    go_enter Tryd.func44, Tryd.ntmps44
    go_wp2
    go_ret
    exact ⟨rfl, rfl⟩
  have hd : decide (i < 0) = false := by simpa using h1
  have hd2 : decide (120 ≤ i) = false := by simpa using h2
  by_cases h3 : i < 60
  · have HV := hidW (wgt_low (by omega) h3)
    have hm : min (2 * i + 1) (2 * (120 - i) - 1) = 2 * i + 1 := Int.min_eq_left (by omega)
    go_enter Tryd.func44, Tryd.ntmps44
    go_wp2
    go_ret
    rw [HV.out]
    exact ⟨by simp, rfl⟩
  · have HV := hidW (wgt_high (i := i) (by omega) (by omega))
    have hm : min (2 * i + 1) (2 * (120 - i) - 1) = 2 * (120 - i) - 1 := Int.min_eq_right (by omega)
    go_enter Tryd.func44, Tryd.ntmps44
    go_wp2
    go_ret
    rw [HV.out]
    refine ⟨?_, rfl⟩
    show Ending.returned (.int .i64 (32767 * (2 * (120 - i) - 1) / 119)) = _
    rw [show 2 * (120 - i) - 1 = 239 - 2 * i from by omega]

end Go.Proofs.YthoiikkjjaldnaaDoor

/- A region that draws its order, walked once, where every world of a class serves: loads of boxes and calls whose contracts keep the class. -/
namespace Go.Proofs.YthoiikkjjaldnaaDoor
set_option linter.unusedVariables false
set_option linter.unusedSimpArgs false
set_option maxRecDepth 100000
open Go.RowKit

theorem wp_region_quietC {P : Program} (C : World → Prop) {id : Nat} {Q : Exit → Act → World → Prop} {a : Act} {w : World} {l : List Oper} (hm : P.follows .mixedOrders = true) (hB : Region.lexB .any l.toArray = true) (hC : C w.drew)
    (h : wpQuiet P l.toArray C (fun a' => ∀ w', C w' → Q .normal a' w') l a) : (Code.region id l.toArray true).wp P Q a w :=
  wp_region_quiet (C := C) hm hB hC (by simpa using h)
theorem quiet_loadI {ops : Array Oper} {C : World → Prop} {o : Oper} {a : Act} {K : Act → Prop} (hw : Region.wanted o (yielded ops a.tmps) = true) (ty : TypeId) (x : Operand) (ho : o.op = .load ty x)
    (g : Nat) (t : TypeId) (xs : List Int) (n : Nat) (d : TypeDesc) (hx : a.eval x = .pointer (some ⟨g, 0, none⟩)) (hC : ∀ W, C W → IB W g t xs) (hu : Tryd.prog.underlying ty = some d) (hd : isAggD d = true)
    (hi : (Tryd.prog.info? ty).map (·.size) = some n) (hl : xs.length = n) (k : K (a.put o.dst (.agg (agi xs)))) :
    if Region.wanted o (yielded ops a.tmps) then o.quiet Tryd.prog a C K else K (a.put o.dst undef) := by
  rw [if_pos hw]
  refine ⟨_, fun W hW => ?_, k⟩
  have h := IB.load (hC W hW) hu hd hi hl
  unfold Oper.quietAt execOp
  simp only [ho, hx, Sem.run_bind, h, Result.andThen_ok, Sem.run_pure]
  exact ⟨rfl, rfl⟩
end Go.Proofs.YthoiikkjjaldnaaDoor
