/- Texts that the law rests on, laid together: Row, Tabs, Byt, LevM, LpcM, WeightW, QuiC. -/
import Derived.Test.YthoiikkjjaldnaaDoorZ10bfcc
import Derived.Laws.Tables
import Derived.Deep.WholeRow
import Derived.BigFrame
import Derived.Lib.LaidTab
import Derived.LaidMore
import Derived.MakeChecks
import Derived.WalkKit
import Derived.Test.YthoiikkjjaldnaaDoorRows
import Derived.BigQuiet
import Derived.Deep.QuietTactic
/- A whole array of numbers out of a block, into a block, and one number out of an array. -/
namespace Go.Proofs.YthoiikkjjaldnaaDoor
set_option linter.unusedVariables false
set_option linter.unusedSimpArgs false
set_option maxRecDepth 100000
open Go.RowKit

theorem agi_one (xs : List Int) : (agi xs).all (·.oneCell') = true := by
  rw [Array.all_eq_true_iff_forall_mem]
  intro v hv
  exact ints_one xs v (by simpa [agi] using hv)

section
variable {w : World} {g : Nat} {t ty : TypeId} {xs ys : List Int} {d : TypeDesc} {n : Nat}
theorem IB.load (h : IB w g t xs) (hu : Tryd.prog.underlying ty = some d) (hd : isAggD d = true) (hi : (Tryd.prog.info? ty).map (·.size) = some n) (hl : xs.length = n) :
    (Instr.loadAt ty (.pointer (some ⟨g, 0, none⟩))).run Tryd.prog w = .ok (.agg (agi xs)) w := by
  simp only [Instr.loadAt, Instr.sureAddr, Sem.run_bind, Sem.run_pure, Result.andThen]
  exact run_loadVar_row w g t ty (agi xs) (0, 0) d h hu (by cases d <;> first | rfl | (simp [isAggD] at hd)) (by rw [hi, agi_size, hl])
theorem IB.store (h : IB w g t xs) (hi : (Tryd.prog.info? ty).map (·.size) = some n) (hl : xs.length = n) (hl2 : ys.length = n) :
    (Instr.storeAt ty (.pointer (some ⟨g, 0, none⟩)) (.agg (agi ys))).run Tryd.prog w = .ok () (w.setRow g (agi ys)) := by
  simp only [Instr.storeAt, Instr.sureAddr, Sem.run_bind, Sem.run_pure, Result.andThen]
  exact run_storeVar_row w g t ty (agi xs) (agi ys) h (by rw [hi, agi_size, hl2]) (by rw [agi_size, agi_size, hl, hl2]) (agi_one ys)
theorem IB.setRow (h : IB w g t xs) (ys : List Int) : IB (w.setRow g (agi ys)) g t ys := setRow_heap w g _ _ t _ h
theorem Blk.rowFar {k : Nat} {cs c2 : Array Value} (h : Blk w k t cs) (hne : k ≠ g) : Blk (w.setRow g c2) k t cs := (setRow_other w g k c2 hne).trans h
theorem below_setRow {B : Nat} {a : World} (h : Below B a w) (hg : B ≤ g) (cs : Array Value) : Below B a (w.setRow g cs) :=
  ⟨h.os, h.tape, h.output, by simpa using h.size, fun k hk => (setRow_other w g k cs (by omega)).trans (h.block k hk)⟩
end

/-- The answer of a function whose first result lies in a block. -/
theorem results_row2 {fn : Func} {p q : Tmp} {ty : TypeId} (h : fn.results = #[.cell p ty, .tmp q]) (tmps : Array Value) (w : World) (g : Nat) (t : TypeId) (xs : List Int) (d : TypeDesc) (n : Nat)
    (hp : tmps.getD p undef = .pointer (some ⟨g, 0, none⟩)) (hg : IB w g t xs) (hu : Tryd.prog.underlying ty = some d) (hd : isAggD d = true) (hi : (Tryd.prog.info? ty).map (·.size) = some n) (hl : xs.length = n) :
    (results fn tmps).run Tryd.prog w = .ok (.tuple #[.agg (agi xs), tmps.getD q undef]) w := by
  have hp' : tmps[p]?.getD undef = .pointer (some ⟨g, 0, none⟩) := by simpa using hp
  have hr := run_loadVar_row (P := Tryd.prog) w g t ty (agi xs) (0, 0) d hg hu (by cases d <;> first | rfl | (simp [isAggD] at hd)) (by rw [hi, agi_size, hl])
  simp [results, h, hp', asAddr, hr]
theorem results_row3 {fn : Func} {p q r : Tmp} {ty : TypeId} (h : fn.results = #[.cell p ty, .tmp q, .tmp r]) (tmps : Array Value) (w : World) (g : Nat) (t : TypeId) (xs : List Int) (d : TypeDesc) (n : Nat)
    (hp : tmps.getD p undef = .pointer (some ⟨g, 0, none⟩)) (hg : IB w g t xs) (hu : Tryd.prog.underlying ty = some d) (hd : isAggD d = true) (hi : (Tryd.prog.info? ty).map (·.size) = some n) (hl : xs.length = n) :
    (results fn tmps).run Tryd.prog w = .ok (.tuple #[.agg (agi xs), tmps.getD q undef, tmps.getD r undef]) w := by
  have hp' : tmps[p]?.getD undef = .pointer (some ⟨g, 0, none⟩) := by simpa using hp
  have hr := run_loadVar_row (P := Tryd.prog) w g t ty (agi xs) (0, 0) d hg hu (by cases d <;> first | rfl | (simp [isAggD] at hd)) (by rw [hi, agi_size, hl])
  simp [results, h, hp', asAddr, hr]

/-- The whole array into a block, out of a block, as the walk meets them. -/
theorem wpList_storeI {ops : Array Oper} {rest : List Oper} {o : Oper} {a : Act} {w : World} {Q : Exit → Act → World → Prop} (hgd : o.guard = none) (ty : TypeId) (x y : Operand) (ho : o.op = .store ty x y)
    (g : Nat) (t : TypeId) (xs ys : List Int) (n : Nat) (hx : a.eval x = .pointer (some ⟨g, 0, none⟩)) (hy : a.eval y = .agg (agi ys)) (h : IB w g t xs)
    (hi : (Tryd.prog.info? ty).map (·.size) = some n) (hl : xs.length = n) (hl2 : ys.length = n)
    (k : wpList Tryd.prog ops Q rest (a.put o.dst undef) (w.setRow g (agi ys))) : wpList Tryd.prog ops Q (o :: rest) a w :=
  wpList_store_row hgd ty x y ho g (agi ys) hx hy t (agi xs) h (by rw [hi, agi_size, hl2]) (by rw [agi_size, agi_size, hl, hl2]) (agi_one ys) k
theorem wpList_loadI {ops : Array Oper} {rest : List Oper} {o : Oper} {a : Act} {w : World} {Q : Exit → Act → World → Prop} (hw : Region.wanted o (yielded ops a.tmps) = true) (ty : TypeId) (x : Operand) (ho : o.op = .load ty x)
    (g : Nat) (t : TypeId) (xs : List Int) (n : Nat) (d : TypeDesc) (hx : a.eval x = .pointer (some ⟨g, 0, none⟩)) (h : IB w g t xs) (hu : Tryd.prog.underlying ty = some d) (hd : isAggD d = true)
    (hi : (Tryd.prog.info? ty).map (·.size) = some n) (hl : xs.length = n)
    (k : wpList Tryd.prog ops Q rest (a.put o.dst (.agg (agi xs))) w) : wpList Tryd.prog ops Q (o :: rest) a w :=
  Go.BigFrame.wpList_want hw fun K hK => wp_load_row ty x ho g hx t (agi xs) (0, 0) d h hu (by cases d <;> first | rfl | (simp [isAggD] at hd)) (by rw [hi, agi_size, hl]) (hK _ _ k)

theorem run_index_agi {t : TypeId} {n : Nat} (ht : Tryd.prog.underlying t = some (.array n 3)) (xs : List Int) (hl : xs.length = n) (k : Nat) (hk : k < n) (w : World) :
    (Instr.index t (.agg (agi xs)) (.int .i64 (k : Nat))).run Tryd.prog w = .ok (.int .i64 (xs.getD k 0)) w := by
  have hs : ∀ w, (sizeOf 3).run Tryd.prog w = .ok 1 w := fun w => by kernel_rfl
  have ha : ∀ w, (isAgg 3).run Tryd.prog w = .ok false w := fun w => by kernel_rfl
  have hg := agi_get xs k (by omega)
  simp [Instr.index, asIntOf, run_underlying ht, hk, part, hs, ha, hg]

/-! A row of the call's own, where an elder block is written. -/
theorem Own.ne_ {w : World} {base c g : Nat} {A : Option Addr} {xs : List Int} (h : Own w base A c xs) (hg : g < base) : ∀ ad, A = some ad → ad.block ≠ g := fun ad e => by
  have := (h.lt ad e).1
  omega
theorem Own.setRow {w : World} {base c g : Nat} {A : Option Addr} {xs : List Int} (h : Own w base A c xs) (hg : g < base) (cs : Array Value) : Own (w.setRow g cs) base A c xs :=
  h.kept (row := some g) ⟨rfl, rfl, rfl, by simp [World.setRow], fun i _ hn => setRow_other w g i cs (by intro e; subst e; exact hn rfl)⟩ (fun ad e h2 => by
    injection h2 with h2
    exact h.ne_ hg ad e h2)
theorem Own.setC {w : World} {base c g : Nat} {A : Option Addr} {xs : List Int} (h : Own w base A c xs) (hg : g < base) (i : Nat) (v : Value) : Own (w.setCell ⟨g, i, none⟩ v) base A c xs :=
  h.kept (row := some g) ⟨rfl, rfl, rfl, by simp [World.setCell], fun j _ hn => Below.heap_setCell _ _ _ j (by simpa using hn)⟩ (fun ad e h2 => by
    injection h2 with h2
    exact h.ne_ hg ad e h2)
end Go.Proofs.YthoiikkjjaldnaaDoor

/- Package-level tables of numbers: what the row's list says of them. -/
namespace Go.Proofs.YthoiikkjjaldnaaDoor
set_option linter.unusedVariables false
set_option linter.unusedSimpArgs false
set_option maxRecDepth 100000
open Go.RowKit Go.ChangeShapes

def rootsL : List Int := [444758425, 203159592, 97181937, 47538611, 23511884, 11692281, 5830311, 2911209, 1454619, 727063, 363470, 181719, 90856, 45427, 22713]
def gainsL : List Int := [0, 3277, 6554, 9830, 12452, 14746, 16384, 18022]
def widthL : List Int := [6, 6, 5, 5, 4, 4, 3, 3]

/-- Block g is an array of these numbers. -/
def TabA (w : World) (g : Nat) (zs : List Int) : Prop := ∃ t fr, w.heap[g]? = some (.cells (agi zs) t fr)
/-- Block g is a slice of these numbers. -/
def TabS (w : World) (g : Nat) (zs : List Int) : Prop := ∃ A c, g < w.heap.size ∧ w.cell? ⟨g, 0, none⟩ = some (.slice A zs.length c) ∧ Rs w w.heap.size A zs ∧ zs.length ≤ c
section
variable {w w' : World} {g : Nat} {zs : List Int}
theorem TabA.lt (h : TabA w g zs) : g < w.heap.size := by
  obtain ⟨t, fr, h⟩ := h
  rcases Nat.lt_or_ge g w.heap.size with hlt | hge
  · exact hlt
  · rw [Array.getElem?_eq_none hge] at h; cases h
theorem TabA.cell (h : TabA w g zs) (i : Nat) (hi : i < zs.length) : w.cell? ⟨g, i, none⟩ = some (.int .i64 (zs.getD i 0)) := by
  obtain ⟨t, fr, h⟩ := h
  exact (cell_of_row w g i _ t fr h).trans (agi_get zs i hi)
theorem TabA.below (h : TabA w g zs) (hb : Below w.heap.size w w') : TabA w' g zs := by
  obtain ⟨t, fr, h1⟩ := h
  exact ⟨t, fr, (hb.block g (TabA.lt ⟨t, fr, h1⟩)).trans h1⟩
theorem TabS.below (h : TabS w g zs) (hb : Below w.heap.size w w') : TabS w' g zs := by
  obtain ⟨A, c, h0, h1, h2, h3⟩ := h
  have := hb.size
  exact ⟨A, c, by omega, (hb.cell (p := ⟨g, 0, none⟩) h0).trans h1, (h2.below hb).more this, h3⟩
theorem TabA.below' {B : Nat} (h : TabA w g zs) (hb : Below B w w') (hB : w.heap.size ≤ B) : TabA w' g zs := h.below (hb.mono hB)
theorem TabS.below' {B : Nat} (h : TabS w g zs) (hb : Below B w w') (hB : w.heap.size ≤ B) : TabS w' g zs := h.below (hb.mono hB)
/-- A cell of the slice. -/
theorem TabS.form (h : TabS w g zs) : ∃ A c, w.cell? ⟨g, 0, none⟩ = some (.slice A zs.length c) ∧ zs.length ≤ c ∧ ∀ k, k < zs.length → ∃ ad, A = some ad ∧ w.cell? (ad.add k) = some (.int .i64 (zs.getD k 0)) := by
  obtain ⟨A, c, _, h1, h2, h3⟩ := h
  refine ⟨A, c, h1, h3, fun k hk => ?_⟩
  obtain ⟨ad, e, _, hc⟩ := h2.at_ hk
  exact ⟨ad, e, hc⟩
end

/-- A whole table, loaded. -/
theorem wpList_loadT {ops : Array Oper} {rest : List Oper} {o : Oper} {a : Act} {w : World} {Q : Exit → Act → World → Prop} (hw : Region.wanted o (yielded ops a.tmps) = true) (ty : TypeId) (x : Operand) (ho : o.op = .load ty x)
    (g : Nat) (xs : List Int) (n : Nat) (d : TypeDesc) (hx : a.eval x = .pointer (some ⟨g, 0, none⟩)) (h : TabA w g xs) (hu : Tryd.prog.underlying ty = some d) (hd : isAggD d = true) (hi : (Tryd.prog.info? ty).map (·.size) = some n) (hl : xs.length = n)
    (hk : wpList Tryd.prog ops Q rest (a.put o.dst (.agg (agi xs))) w) : wpList Tryd.prog ops Q (o :: rest) a w := by
  obtain ⟨t, fr, h⟩ := h
  exact Go.BigFrame.wpList_want hw fun K hK => wp_load_row ty x ho g hx t (agi xs) fr d h hu (by cases d <;> first | rfl | (simp [isAggD] at hd)) (by rw [hi, agi_size, hl]) (hK _ _ hk)

/-- The head of the row's list. -/
theorem laid_agg {W : World} {name : String} {zs : List Int} {rest : List (String × DataW Unit)} {ps : List MemPlace} {g : Nat} {t : TypeId} {n : Nat}
    (hg : Tryd.prog.globalNamed name = some g) (hty : (Tryd.prog.globals[g]?).map (·.type) = some t) (ht : Tryd.prog.underlying t = some (.array n 3)) (hce : Tryd.prog.cellsOf 3 = 1) (hct : Tryd.prog.cellsOf t = n)
    (h : DataW.LaidVars Tryd.prog W ((name, Lib.tabData .i64 zs) :: rest) ps) : TabA W g zs ∧ ∃ q, DataW.LaidVars Tryd.prog W rest q := by
  obtain ⟨g', t', cs, fuel, p, q, hg', ht', hvar, hd, hr, _⟩ := h
  obtain rfl := Option.some.inj (hg.symm.trans hg')
  obtain rfl := Option.some.inj (hty.symm.trans ht')
  refine ⟨?_, q, hr⟩
  have hcs := Lib.cells_of_tab ht Tryd.underlying3 hce hct hd
  simp only [World.var?, hg, Option.bind_some] at hvar
  split at hvar
  · rename_i c t fr hb
    cases hvar
    refine ⟨t, fr, ?_⟩
    rw [hb]
    have : cs = agi zs := by
      unfold agi ints
      rw [← hcs]
    rw [this]
  · cases hvar
end Go.Proofs.YthoiikkjjaldnaaDoor

/- Slices of bytes; a call of a desk as an argument. -/
namespace Go.Proofs.YthoiikkjjaldnaaDoor
set_option linter.unusedVariables false
set_option linter.unusedSimpArgs false
set_option maxRecDepth 100000
open Go.RowKit

def bts (xs : List Int) : List Value := xs.map (Value.int .u8)
theorem bts_len (xs : List Int) : (bts xs).length = xs.length := by simp [bts]
theorem bts_get (xs : List Int) (k : Nat) (h : k < xs.length) : (bts xs)[k]? = some (.int .u8 (xs.getD k 0)) := by simp [bts, h]
theorem bts_append (xs ys : List Int) : bts xs ++ bts ys = bts (xs ++ ys) := by simp [bts]
/-- A slice of bytes that reads. -/
def Rb (w : World) (B : Nat) (A : Option Addr) (xs : List Int) : Prop := Reads w B 1 A xs.length (bts xs)
/-- A row of bytes of a call's own. -/
def OwnB (w : World) (base : Nat) (A : Option Addr) (c : Nat) (xs : List Int) : Prop := w.ownsRow base 5 1 (.slice A xs.length c) xs.length (bts xs)
theorem infoB : (Tryd.prog.info? 5).map (fun i => (i.zero, i.size, i.bytes)) = some (some (.int .u8 0), 1, 1) := by kernel_rfl
section
variable {w w' : World} {B B' : Nat} {A : Option Addr} {xs : List Int}
theorem Rb.below (h : Rb w B A xs) (hb : Below B w w') : Rb w' B A xs := Reads.below h hb
theorem Rb.more (h : Rb w B A xs) (hB : B ≤ B') : Rb w B' A xs := Reads.more h hB
theorem Rb.at_ {k : Nat} (h : Rb w B A xs) (hk : k < xs.length) : ∃ ad, A = some ad ∧ ad.block < B ∧ w.cell? (ad.add k) = some (.int .u8 (xs.getD k 0)) := by
  obtain ⟨ad, e, hb, hc⟩ := h.2 (by omega)
  exact ⟨ad, e, hb, hc k _ (bts_get xs k hk)⟩
theorem Rb.ad (h : Rb w B A xs) (hk : 0 < xs.length) : ∃ ad, A = some ad ∧ ad.block < B ∧ ∀ k, k < xs.length → w.cell? (ad.add k) = some (.int .u8 (xs.getD k 0)) := by
  obtain ⟨ad, e, hb, hc⟩ := h.2 hk
  exact ⟨ad, e, hb, fun k hk => hc k _ (bts_get xs k hk)⟩
theorem Rb.nil : Rb w B A [] := Reads.none_
theorem OwnB.nil {base : Nat} : OwnB w base none 0 [] := World.ownsRow_nil w base _ _
theorem OwnB.reads {base c : Nat} (h : OwnB w base A c xs) : Rb w w.heap.size A xs := Reads.of_own h
theorem OwnB.below {base c : Nat} (h : OwnB w base A c xs) (hb : Below w.heap.size w w') : OwnB w' base A c xs :=
  World.ownsRow.kept h (row := none) ⟨hb.os, hb.tape, hb.output, hb.size, fun k hk _ => hb.block k hk⟩ (by cases A <;> simp [Value.ownBlock])
theorem OwnB.cap {base c : Nat} (h : OwnB w base A c xs) : xs.length ≤ c ∧ c ≤ 9223372036854775807 := by
  rcases h.2 with ⟨hv, hn⟩ | ⟨g, cap, cur, hv, hb, hg, h1, h2, _⟩
  · injection hv with _ _ hc
    omega
  · injection hv with _ _ hc
    unfold maxLen at h2
    omega
theorem OwnB.lt {base c : Nat} (h : OwnB w base A c xs) : ∀ a, A = some a → base ≤ a.block ∧ a.block < w.heap.size := fun a ha => by
  subst ha
  exact World.ownsRow.lt h a.block rfl
theorem OwnB.ne_ {base c g : Nat} (h : OwnB w base A c xs) (hg : g < base) : ∀ ad, A = some ad → ad.block ≠ g := fun ad e => by
  have := (h.lt ad e).1
  omega
end
/-! What an argument of slices holds. -/
section
open Go.ChangeShapes
variable {H : Type} {enc : TypeId × Value → H} {P : Program} {w : World}
end
end Go.Proofs.YthoiikkjjaldnaaDoor

/- Plain facts on predictors that grow by reflections, and the recursion that finds the reflections. No program in sight. -/
namespace Go.Proofs.YthoiikkjjaldnaaDoor
set_option linter.unusedVariables false
set_option linter.unusedSimpArgs false
set_option maxRecDepth 100000

/-- The sum of the first n. -/
def sumN (f : Nat → Int) : Nat → Int
  | 0 => 0
  | n + 1 => sumN f n + f n
theorem sumN_congr {f g : Nat → Int} (n : Nat) (h : ∀ i, i < n → f i = g i) : sumN f n = sumN g n := by
  induction n with
  | zero => rfl
  | succ n ih => simp only [sumN]; rw [ih (fun i hi => h i (by omega)), h n (by omega)]
theorem sumN_bound {f : Nat → Int} {B : Int} (n : Nat) (h : ∀ i, i < n → -B ≤ f i ∧ f i ≤ B) : -(B * n) ≤ sumN f n ∧ sumN f n ≤ B * n := by
  induction n with
  | zero => simp [sumN]
  | succ n ih =>
    have h1 := ih (fun i hi => h i (by omega))
    have h2 := h n (by omega)
    have e : B * ((n + 1 : Nat) : Int) = B * (n : Int) + B := by rw [Int.natCast_succ, Int.mul_add, Int.mul_one]
    rw [e]
    simp only [sumN]
    omega

theorem mul_bound {x y X Y : Int} (hX : 0 ≤ X) (hY : 0 ≤ Y) (hx : -X ≤ x ∧ x ≤ X) (hy : -Y ≤ y ∧ y ≤ Y) : -(X * Y) ≤ x * y ∧ x * y ≤ X * Y := by
  have h : (x * y).natAbs ≤ X.natAbs * Y.natAbs := by
    rw [Int.natAbs_mul]
    exact Nat.mul_le_mul (by omega) (by omega)
  have e : ((X.natAbs * Y.natAbs : Nat) : Int) = X * Y := by
    rw [Int.natCast_mul, Int.natAbs_of_nonneg hX, Int.natAbs_of_nonneg hY]
  omega

/-- A predictor of m numbers with one reflection more. -/
def growL (a : List Int) (q : Int) (m : Nat) : List Int := (List.range (m + 1)).map fun i => if i = 0 then a.getD 0 0 else a.getD i 0 + q * a.getD (m - i) 0 / 32768
theorem growL_len (a : List Int) (q : Int) (m : Nat) : (growL a q m).length = m + 1 := by simp [growL]
theorem growL_get (a : List Int) (q : Int) (m i : Nat) (h : i ≤ m) : (growL a q m).getD i 0 = if i = 0 then a.getD 0 0 else a.getD i 0 + q * a.getD (m - i) 0 / 32768 := by
  unfold growL
  rw [List.getD_eq_getElem?_getD, List.getElem?_map, List.getElem?_range (by omega)]
  rfl

/-- All numbers within B. -/
def Within (B : Int) (a : List Int) : Prop := ∀ i, -B ≤ a.getD i 0 ∧ a.getD i 0 ≤ B
theorem Within.grow {B : Int} {a : List Int} {q : Int} {m : Nat} (hB : 0 ≤ B) (h : Within B a) (hq : -32768 ≤ q ∧ q ≤ 32768) : Within (2 * B) (growL a q m) := by
  intro i
  by_cases hi : i ≤ m
  · rw [growL_get a q m i hi]
    have h0 := h 0
    have h1 := h i
    have h2 := h (m - i)
    split
    · omega
    · have h3 := mul_bound (X := 32768) (by omega) hB hq h2
      omega
  · rw [List.getD_eq_getElem?_getD, List.getElem?_eq_none (by rw [growL_len]; omega)]
    simp
    omega

/-- What a step sums. -/
def lacc (a r : List Int) (m : Nat) : Int := sumN (fun i => a.getD i 0 / 512 * r.getD (m - i) 0 / 32768) m
/-- The reflections: so many rounds are to come; m numbers in a; k what has been found. -/
def lev (r : List Int) : Nat → Nat → List Int → Int → List Int → List Int × Int × Bool
  | 0, _, _, e, k => (k, e, true)
  | f + 1, m, a, e, k =>
    if (-lacc a r m * 32768).tdiv e ≤ -32000 ∨ 32000 ≤ (-lacc a r m * 32768).tdiv e then (k, e, false)
    else if e - e * (-lacc a r m * 32768).tdiv e / 32768 * (-lacc a r m * 32768).tdiv e / 32768 ≤ 0 then (k ++ [(-lacc a r m * 32768).tdiv e], 0, false)
    else lev r f (m + 1) (growL a ((-lacc a r m * 32768).tdiv e) m) (e - e * (-lacc a r m * 32768).tdiv e / 32768 * (-lacc a r m * 32768).tdiv e / 32768) (k ++ [(-lacc a r m * 32768).tdiv e])

theorem lev_zero (r : List Int) (m : Nat) (a : List Int) (e : Int) (k : List Int) : lev r 0 m a e k = (k, e, true) := rfl
theorem lev_step (r : List Int) (f m : Nat) (a : List Int) (e : Int) (k : List Int) (q e' : Int) (hq : q = (-lacc a r m * 32768).tdiv e) (he : e' = e - e * q / 32768 * q / 32768) :
    lev r (f + 1) m a e k = if q ≤ -32000 ∨ 32000 ≤ q then (k, e, false) else if e' ≤ 0 then (k ++ [q], 0, false) else lev r f (m + 1) (growL a q m) e' (k ++ [q]) := by
  subst he hq
  rfl

theorem tdiv_bound {x e : Int} (he : 0 < e) : -(x.natAbs : Int) ≤ x.tdiv e ∧ x.tdiv e ≤ x.natAbs := by
  have h : (x.tdiv e).natAbs ≤ x.natAbs := by rw [Int.natAbs_tdiv]; exact Nat.div_le_self _ _
  omega

theorem less_left {e q : Int} (he : 0 ≤ e) : 0 ≤ e * q / 32768 * q / 32768 := by
  have h : 0 ≤ e * q / 32768 * q := by
    rcases Int.le_total 0 q with hq | hq
    · exact Int.mul_nonneg (by have := Int.mul_nonneg he hq; omega) hq
    · have h1 : e * q ≤ 0 := Int.mul_nonpos_of_nonneg_of_nonpos he hq
      have h2 : e * q / 32768 ≤ 0 := by omega
      have h3 : e * q / 32768 * q = (-(e * q / 32768)) * (-q) := by rw [Int.neg_mul_neg]
      rw [h3]
      exact Int.mul_nonneg (by omega) (by omega)
  omega
theorem e_bound {e q : Int} (h0 : 0 < e) (h1 : e ≤ 2147483647) (hq : -32000 < q) (hq2 : q < 32000) :
    (-70368744144896 ≤ e * q ∧ e * q ≤ 70368744144896) ∧ (-70368744144896 ≤ e * q / 32768 * q ∧ e * q / 32768 * q ≤ 70368744144896) ∧ e - e * q / 32768 * q / 32768 ≤ e ∧ -2147483648 ≤ e - e * q / 32768 * q / 32768 := by
  have h2 := mul_bound (x := e) (X := 2147483647) (y := q) (Y := 32000) (by omega) (by omega) (by omega) (by omega)
  have h3 := mul_bound (x := e * q / 32768) (X := 2147483648) (y := q) (Y := 32000) (by omega) (by omega) (by omega) (by omega)
  have h4 := less_left (e := e) (q := q) (by omega)
  omega

/-- Numbers and noughts behind them, n in all. -/
def padTo (n : Nat) (k : List Int) : List Int := k ++ List.replicate (n - k.length) 0
theorem padTo_len {n : Nat} {k : List Int} (h : k.length ≤ n) : (padTo n k).length = n := by simp [padTo]; omega
theorem padTo_snoc {n : Nat} {k : List Int} (q : Int) (h : k.length < n) : padTo n (k ++ [q]) = (padTo n k).set k.length q := by
  unfold padTo
  obtain ⟨d, hd⟩ : ∃ d, n - k.length = d + 1 := ⟨n - k.length - 1, by omega⟩
  rw [List.length_append, List.length_singleton, hd, show n - (k.length + 1) = d from by omega, List.replicate_succ, List.set_append_right _ _ (Nat.le_refl _)]
  simp
end Go.Proofs.YthoiikkjjaldnaaDoor

/- Plain facts on reflections and predictors. No program in sight. -/
namespace Go.Proofs.YthoiikkjjaldnaaDoor
set_option linter.unusedVariables false
set_option linter.unusedSimpArgs false
set_option maxRecDepth 100000

/-- May these be reflections? -/
def okR (q : Int) : Bool := decide (-32768 < q ∧ q < 32768)
def steadyB (k : List Int) : Bool := k.all okR
theorem okR_yes {q : Int} (h1 : -32768 < q) (h2 : q < 32768) : okR q = true := by unfold okR; simp; omega
theorem okR_no {q : Int} (h : q ≤ -32768 ∨ 32768 ≤ q) : okR q = false := by unfold okR; simp; omega
theorem steadyB_at {k : List Int} (h : steadyB k = true) (i : Nat) : -32768 < k.getD i 0 ∧ k.getD i 0 < 32768 := by
  unfold steadyB at h
  rw [List.getD_eq_getElem?_getD]
  cases hi : k[i]? with
  | none => simp
  | some x =>
    have := List.all_eq_true.1 h x (List.mem_of_getElem? hi)
    unfold okR at this
    simpa using this
/-- The first i of a list. -/
def allTo (p : Int → Bool) (l : List Int) (i : Nat) : Prop := ∀ j, j < i → p (l.getD j 0) = true
theorem allTo.zero {p : Int → Bool} {l : List Int} : allTo p l 0 := fun j h => by omega
theorem allTo.succ {p : Int → Bool} {l : List Int} {i : Nat} (h : allTo p l i) (h2 : p (l.getD i 0) = true) : allTo p l (i + 1) := fun j hj => by
  by_cases he : j = i
  · subst he; exact h2
  · exact h j (by omega)
theorem allTo.all {p : Int → Bool} {l : List Int} {i : Nat} (h : allTo p l i) (hl : l.length ≤ i) : l.all p = true := by
  rw [List.all_eq_true]
  intro x hx
  obtain ⟨j, hj⟩ := List.getElem?_of_mem hx
  have hlt := (List.getElem?_eq_some_iff.1 hj).1
  have := h j (by omega)
  rw [List.getD_eq_getElem?_getD, hj] at this
  exact this
theorem all_no {p : Int → Bool} {l : List Int} {i : Nat} (hi : i < l.length) (h : p (l.getD i 0) = false) : l.all p = false := by
  rw [Bool.eq_false_iff]
  intro hc
  have := List.all_eq_true.1 hc (l.getD i 0) (by rw [List.getD_eq_getElem?_getD, List.getElem?_eq_getElem hi]; exact List.getElem_mem hi)
  rw [h] at this
  cases this
theorem all_at {p : Int → Bool} {l : List Int} (h : l.all p = true) (i : Nat) (hi : i < l.length) : p (l.getD i 0) = true :=
  List.all_eq_true.1 h _ (by rw [List.getD_eq_getElem?_getD, List.getElem?_eq_getElem hi]; exact List.getElem_mem hi)

/-! Mix. -/
def mixE (a b : List Int) (num : Int) (i : Nat) : Int := (a.getD i 0 * (4 - num) + b.getD i 0 * num).tdiv 4
def mixB (a b : List Int) (num : Int) : Bool := decide (0 ≤ num ∧ num ≤ 4) && (steadyB a && steadyB b)
def mixL (a b : List Int) (num : Int) : List Int := if mixB a b num then (List.range 8).map (mixE a b num) else List.replicate 8 0
def errOf (b : Bool) : Int := if b then 0 else 2
theorem mixL_len (a b : List Int) (num : Int) : (mixL a b num).length = 8 := by unfold mixL; split <;> simp
theorem mix_sum {x y n : Int} (hx : -32768 < x ∧ x < 32768) (hy : -32768 < y ∧ y < 32768) (hn : 0 ≤ n ∧ n ≤ 4) : -262144 ≤ x * (4 - n) ∧ x * (4 - n) ≤ 262144 ∧ -262144 ≤ y * n ∧ y * n ≤ 262144 := by
  have h1 := mul_bound (x := x) (X := 32768) (y := 4 - n) (Y := 4) (by omega) (by omega) (by omega) (by omega)
  have h2 := mul_bound (x := y) (X := 32768) (y := n) (Y := 4) (by omega) (by omega) (by omega) (by omega)
  omega

/-! Expand. -/
def exF (g : Int) : Nat → Int
  | 0 => 32768
  | i + 1 => (exF g i * g + 16384) / 32768
theorem exF_range {g : Int} (h0 : 0 ≤ g) (h1 : g ≤ 32768) (i : Nat) : 0 ≤ exF g i ∧ exF g i ≤ 32768 := by
  induction i with
  | zero => exact ⟨by simp [exF], by simp [exF]⟩
  | succ i ih =>
    have h2 := mul_bound (x := exF g i) (X := 32768) (y := g) (Y := 32768) (by omega) (by omega) (by omega) (by omega)
    have h3 := Int.mul_nonneg ih.1 h0
    simp only [exF]
    omega
def exE (a : List Int) (g : Int) (i : Nat) : Int := (a.getD i 0 * exF g i + 16384) / 32768
def okA (x : Int) : Bool := decide (-1073741824 ≤ x ∧ x ≤ 1073741824)
def exB (a : List Int) (g : Int) : Bool := decide (0 ≤ g ∧ g ≤ 32768) && a.all okA
def exL (a : List Int) (g : Int) : List Int := if exB a g then (List.range 9).map (exE a g) else List.replicate 9 0
theorem exL_len (a : List Int) (g : Int) : (exL a g).length = 9 := by unfold exL; split <;> simp

/-! Direct. -/
/-- The predictor of the first so many reflections. -/
def dirN (k : List Int) : Nat → List Int
  | 0 => [16777216]
  | m + 1 => growL (dirN k m) (k.getD m 0) (m + 1)
theorem dirN_len (k : List Int) (m : Nat) : (dirN k m).length = m + 1 := by
  cases m with
  | zero => rfl
  | succ m => simp [dirN, growL_len]
theorem dirN_within {k : List Int} (h : ∀ i, -32768 ≤ k.getD i 0 ∧ k.getD i 0 ≤ 32768) (m : Nat) : Within (16777216 * 2 ^ m) (dirN k m) := by
  induction m with
  | zero =>
    intro i
    simp only [dirN]
    match i with
    | 0 => simp
    | i + 1 => simp
  | succ m ih =>
    have h2 := Within.grow (m := m + 1) (by have : (0 : Int) < 2 ^ m := Int.pow_pos (by decide); omega) ih (h m)
    have e : (16777216 : Int) * 2 ^ (m + 1) = 2 * (16777216 * 2 ^ m) := by rw [Int.pow_succ]; omega
    rw [e]
    exact h2
def dirL (k : List Int) : List Int := if steadyB k then (List.range 9).map (fun i => ((dirN k 8).getD i 0 + 2048) / 4096) else List.replicate 9 0
theorem dirL_len (k : List Int) : (dirL k).length = 9 := by unfold dirL; split <;> simp
end Go.Proofs.YthoiikkjjaldnaaDoor

/- The walk of the law FrontWeights. -/
namespace Go.Proofs.YthoiikkjjaldnaaDoor
set_option linter.unusedVariables false
set_option linter.unusedSimpArgs false
set_option maxRecDepth 100000
open Go.RowKit

theorem hidW {p : Prop} (h : p) : Hid p := h

/-- The window's number at a place. -/
def wgt (i : Int) : Int := if i < 0 ∨ 120 ≤ i then 0 else 32767 * min (2 * i + 1) (239 - 2 * i) / 119

theorem wgt_out {i : Int} (h : i < 0 ∨ 120 ≤ i) : wgt i = 0 := by unfold wgt; rw [if_pos h]
theorem wgt_low {i : Int} (h0 : 0 ≤ i) (h : i < 60) : wgt i = 32767 * (2 * i + 1) / 119 := by
  unfold wgt; rw [if_neg (by omega), Int.min_eq_left (by omega)]
theorem wgt_high {i : Int} (h0 : 60 ≤ i) (h : i < 120) : wgt i = 32767 * (239 - 2 * i) / 119 := by
  unfold wgt; rw [if_neg (by omega), Int.min_eq_right (by omega)]
set_option maxHeartbeats 1000000 in
theorem weight_any (i : Int) (w : World) : Calls Tryd.prog 44 #[.int .i64 i] w fun e w' => e = .returned (.int .i64 (wgt i)) ∧ w = w' := by
  by_cases h1 : i < 0
  · rw [wgt_out (.inl h1)]
    go_enter Tryd.func44, Tryd.ntmps44
    go_wp2
    go_ret
    exact ⟨rfl, rfl⟩
  by_cases h2 : 120 ≤ i
  · rw [wgt_out (.inr h2)]
    have hd : decide (i < 0) = false := by simpa using h1
    go_enter Tryd.func44, Tryd.ntmps44
    go_wp2
    go_ret
    exact ⟨rfl, rfl⟩
  have hd : decide (i < 0) = false := by simpa using h1
  have hd2 : decide (120 ≤ i) = false := by simpa using h2
  by_cases h3 : i < 60
  · have HV := hidW (wgt_low (by omega) h3)
    have hm : min (2 * i + 1) (2 * (120 - i) - 1) = 2 * i + 1 := Int.min_eq_left (by omega)
    go_enter Tryd.func44, Tryd.ntmps44
    go_wp2
    go_ret
    rw [HV.out]
    exact ⟨by simp, rfl⟩
  · have HV := hidW (wgt_high (i := i) (by omega) (by omega))
    have hm : min (2 * i + 1) (2 * (120 - i) - 1) = 2 * (120 - i) - 1 := Int.min_eq_right (by omega)
    go_enter Tryd.func44, Tryd.ntmps44
    go_wp2
    go_ret
    rw [HV.out]
    refine ⟨?_, rfl⟩
    show Ending.returned (.int .i64 (32767 * (2 * (120 - i) - 1) / 119)) = _
    rw [show 2 * (120 - i) - 1 = 239 - 2 * i from by omega]

end Go.Proofs.YthoiikkjjaldnaaDoor

/- A region that draws its order, walked once, where every world of a class serves: loads of boxes and calls whose contracts keep the class. -/
namespace Go.Proofs.YthoiikkjjaldnaaDoor
set_option linter.unusedVariables false
set_option linter.unusedSimpArgs false
set_option maxRecDepth 100000
open Go.RowKit

end Go.Proofs.YthoiikkjjaldnaaDoor
