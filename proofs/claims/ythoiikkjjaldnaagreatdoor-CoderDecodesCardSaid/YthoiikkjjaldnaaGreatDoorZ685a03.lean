/- Texts that the law rests on, laid together: Mem, Push, PushN, Byt, BigMath, BigRd, PkS, ByA, Row, Tabs, BigWords, BigAdd, BigCmp, BigSmall, BigShift, BigMul, BigSub, BigInt, BigInt2, BigInt3, BigSum, BigISub. -/
import Derived.Test.YthoiikkjjaldnaaGreatDoorRows
import Derived.WalkKit
import Derived.WalkLawsBesides
import Derived.Below
import Derived.Carry
import Derived.ChangeSlices
import Derived.SizedLaws
import Derived.Laws.OwnMore
import Derived.Laws.Rows
import Derived.Deep.AppendLies
import Derived.Deep.Draws
import Derived.Maps.AppendAt
import Derived.RegionTactic
import Derived.OwnWalk
import Derived.WideShapes
import Derived.ChangeArms
import Derived.Laws.Tables
import Derived.Deep.WholeRow
import Derived.BigFrame
import Derived.Lib.LaidTab
import Derived.LaidMore
import Derived.MakeChecks
import Derived.Laws.AppendOwnNone
import Derived.Deep.QuietTactic
import Derived.BigQuiet
import Derived.Deep.RegionWith
import Derived.Deep.RegionHeld3
/- Words for memory: slices, blocks and aggregates of numbers; what an argument holds. -/
namespace Go.Proofs.YthoiikkjjaldnaaGreatDoor
set_option linter.unusedVariables false
set_option linter.unusedSimpArgs false
set_option maxRecDepth 100000
open Go.RowKit

/-! Numbers as cells. -/
def ints (xs : List Int) : List Value := xs.map (Value.int .i64)
/-- Numbers as an aggregate's cells. -/
def agi (xs : List Int) : Array Value := (ints xs).toArray
theorem ints_len (xs : List Int) : (ints xs).length = xs.length := by simp [ints]
theorem agi_size (xs : List Int) : (agi xs).size = xs.length := by simp [agi, ints]
theorem ints_get (xs : List Int) (k : Nat) (h : k < xs.length) : (ints xs)[k]? = some (.int .i64 (xs.getD k 0)) := by
  simp [ints, h]
theorem agi_get (xs : List Int) (k : Nat) (h : k < xs.length) : (agi xs)[k]? = some (.int .i64 (xs.getD k 0)) := by
  simp [agi, ints, h]
theorem agi_set (xs : List Int) (k : Nat) (v : Int) : (agi xs).setIfInBounds k (.int .i64 v) = agi (xs.set k v) := by
  simp [agi, ints, List.map_set]
theorem ints_one (xs : List Int) : ∀ u ∈ ints xs, u.oneCell' = true := ints_oneCell .i64 xs
theorem ints_append (xs ys : List Int) : ints xs ++ ints ys = ints (xs ++ ys) := by simp [ints]
theorem agi_inj {xs ys : List Int} (h : agi xs = agi ys) : xs = ys := by
  have h1 : ints xs = ints ys := by simpa [agi] using h
  exact List.map_inj_right (fun a b hab => by injection hab) |>.1 h1

/-- Numbers of 64 bits. -/
def W64 (xs : List Int) : Prop := ∀ x ∈ xs, -9223372036854775808 ≤ x ∧ x ≤ 9223372036854775807
theorem W64.at_ {xs : List Int} (h : W64 xs) (k : Nat) : -9223372036854775808 ≤ xs.getD k 0 ∧ xs.getD k 0 ≤ 9223372036854775807 := by
  rw [List.getD_eq_getElem?_getD]
  cases hk : xs[k]? with
  | none => simp
  | some x => simpa using h x (List.mem_of_getElem? hk)

/-! A slice that reads as a list, nil let in. -/
theorem block_of_add (a : Addr) (n : Nat) : (a.add n).block = a.block := by unfold Addr.add; split <;> rfl
theorem add_of_add (a : Addr) (i j : Nat) : (a.add i).add j = a.add (i + j) := by
  unfold Addr.add
  by_cases hi : i = 0 <;> by_cases hj : j = 0 <;> simp [hi, hj, Nat.add_assoc]
theorem add_zero' (g i : Nat) : (⟨g, 0, none⟩ : Addr).add i = ⟨g, i, none⟩ := by
  unfold Addr.add; split <;> simp_all

def Reads (w : World) (B size : Nat) (A : Option Addr) (n : Nat) (xs : List Value) : Prop :=
  xs.length = n * size ∧ (0 < n → ∃ ad, A = some ad ∧ ad.block < B ∧ ∀ j u, xs[j]? = some u → w.cell? (ad.add j) = some u)

section
variable {w w' : World} {B B' size n : Nat} {A : Option Addr} {xs : List Value}
theorem Reads.none_ : Reads w B size A 0 [] := ⟨by simp, fun h => absurd h (by omega)⟩
theorem Reads.keep (h : Reads w B size A n xs) (hk : ∀ p : Addr, p.block < B → w'.cell? p = w.cell? p) : Reads w' B size A n xs :=
  ⟨h.1, fun hn => by
    obtain ⟨ad, e, hb, hc⟩ := h.2 hn
    exact ⟨ad, e, hb, fun j u hu => (hk _ (by rw [block_of_add]; exact hb)).trans (hc j u hu)⟩⟩
theorem Reads.more (h : Reads w B size A n xs) (hB : B ≤ B') : Reads w B' size A n xs :=
  ⟨h.1, fun hn => by
    obtain ⟨ad, e, hb, hc⟩ := h.2 hn
    exact ⟨ad, e, by omega, hc⟩⟩
theorem Reads.below (h : Reads w B size A n xs) (hb : Below B w w') : Reads w' B size A n xs := h.keep fun _ hp => hb.cell hp
theorem Reads.cut (h : Reads w B size A n xs) {k cap : Nat} (hk : k ≤ n) (hc : n ≤ cap) :
    Reads w B size (if cap = k then A else A.map (·.add (k * size))) (n - k) (xs.drop (k * size)) := by
  refine ⟨by rw [List.length_drop, h.1, Nat.sub_mul], fun hn => ?_⟩
  obtain ⟨ad, rfl, hb, hcell⟩ := h.2 (by omega)
  rw [if_neg (by omega)]
  refine ⟨ad.add (k * size), rfl, by rw [block_of_add]; exact hb, fun j u hu => ?_⟩
  rw [add_of_add]
  exact hcell _ u (by rw [← hu, List.getElem?_drop])
theorem Reads.take (h : Reads w B size A n xs) {k : Nat} (hk : k ≤ n) : Reads w B size A k (xs.take (k * size)) := by
  have h1 := h.1
  refine ⟨?_, fun hn => ?_⟩
  · rw [List.length_take, h1]; exact Nat.min_eq_left (Nat.mul_le_mul_right _ hk)
  · obtain ⟨ad, rfl, hb, hcell⟩ := h.2 (by omega)
    refine ⟨ad, rfl, hb, fun j u hu => hcell j u ?_⟩
    rw [List.getElem?_take] at hu
    split at hu
    · exact hu
    · cases hu
theorem Reads.of_own {base : Nat} {e : TypeId} {c : Nat} (h : w.ownsRow base e size (.slice A n c) n xs) : Reads w w.heap.size size A n xs := by
  refine ⟨h.1, fun hn => ?_⟩
  obtain ⟨g, cap, hv, _, hlt⟩ := h.form hn
  have hA : A = some ⟨g, 0, none⟩ := by injection hv
  subst hA
  exact ⟨_, rfl, hlt, h.cells (g := g) rfl⟩
end

/-- A slice of numbers. -/
def Rs (w : World) (B : Nat) (A : Option Addr) (xs : List Int) : Prop := Reads w B 1 A xs.length (ints xs)
section
variable {w w' : World} {B B' : Nat} {A : Option Addr} {xs : List Int}
theorem Rs.at_ {k : Nat} (h : Rs w B A xs) (hk : k < xs.length) : ∃ ad, A = some ad ∧ ad.block < B ∧ w.cell? (ad.add k) = some (.int .i64 (xs.getD k 0)) := by
  obtain ⟨ad, e, hb, hc⟩ := h.2 (by omega)
  exact ⟨ad, e, hb, hc k _ (ints_get xs k hk)⟩
theorem Rs.ad (h : Rs w B A xs) (hk : 0 < xs.length) : ∃ ad, A = some ad ∧ ad.block < B ∧ ∀ k, k < xs.length → w.cell? (ad.add k) = some (.int .i64 (xs.getD k 0)) := by
  obtain ⟨ad, e, hb, hc⟩ := h.2 hk
  exact ⟨ad, e, hb, fun k hk => hc k _ (ints_get xs k hk)⟩
theorem Rs.below (h : Rs w B A xs) (hb : Below B w w') : Rs w' B A xs := Reads.below h hb
theorem Rs.below' (h : Rs w B A xs) (hB : B ≤ B') (hb : Below B' w w') : Rs w' B A xs := Reads.below h (hb.mono hB)
theorem Rs.more (h : Rs w B A xs) (hB : B ≤ B') : Rs w B' A xs := Reads.more h hB
theorem Rs.nil : Rs w B A [] := Reads.none_
theorem Rs.drop (h : Rs w B A xs) {k cap : Nat} (hk : k ≤ xs.length) (hc : xs.length ≤ cap) : Rs w B (if cap = k then A else A.map (·.add k)) (xs.drop k) := by
  have h1 := Reads.cut h hk hc
  simp only [Nat.mul_one] at h1
  unfold Rs
  rw [List.length_drop]
  have e : ints (xs.drop k) = (ints xs).drop k := by simp [ints, List.map_drop]
  rw [e]; exact h1
theorem Rs.take (h : Rs w B A xs) {k : Nat} (hk : k ≤ xs.length) : Rs w B A (xs.take k) := by
  have h1 := Reads.take h hk
  simp only [Nat.mul_one] at h1
  unfold Rs
  rw [List.length_take, Nat.min_eq_left hk]
  have e : ints (xs.take k) = (ints xs).take k := by simp [ints, List.map_take]
  rw [e]; exact h1
end

/-- A slice that a call made: a row of its own of these numbers. -/
def Own (w : World) (base : Nat) (A : Option Addr) (c : Nat) (xs : List Int) : Prop := w.ownsRow base 3 1 (.slice A xs.length c) xs.length (ints xs)
section
variable {w w' : World} {base base' : Nat} {A : Option Addr} {c : Nat} {xs : List Int}
theorem Own.reads (h : Own w base A c xs) : Rs w w.heap.size A xs := Reads.of_own h
theorem Own.nil : Own w base none 0 [] := World.ownsRow_nil w base _ _
theorem Own.lt (h : Own w base A c xs) : ∀ a, A = some a → base ≤ a.block ∧ a.block < w.heap.size := fun a ha => by
  subst ha
  exact World.ownsRow.lt h a.block rfl
theorem Own.cap (h : Own w base A c xs) : xs.length ≤ c ∧ c ≤ 9223372036854775807 := by
  rcases h.2 with ⟨hv, hn⟩ | ⟨g, cap, cur, hv, hb, hg, h1, h2, _⟩
  · injection hv with _ _ hc
    omega
  · injection hv with _ _ hc
    unfold maxLen at h2
    omega
theorem Own.below (h : Own w base A c xs) (hb : Below w.heap.size w w') : Own w' base A c xs :=
  World.ownsRow.kept h (row := none) ⟨hb.os, hb.tape, hb.output, hb.size, fun k hk _ => hb.block k hk⟩ (by cases A <;> simp [Value.ownBlock])
theorem Own.kept {row : Option Nat} (h : Own w base A c xs) (hg : w.grownBy w' row) (hne : ∀ a, A = some a → some a.block ≠ row) : Own w' base A c xs :=
  World.ownsRow.kept h hg (by
    cases A with
    | none => exact .inl rfl
    | some a => exact .inr (hne a rfl))
theorem Own.more (h : Own w base A c xs) (hb : base' ≤ base) : Own w base' A c xs := by
  refine ⟨h.1, ?_⟩
  rcases h.2 with hn | ⟨g, cap, cur, hv, hbb, rest⟩
  · exact .inl hn
  · exact .inr ⟨g, cap, cur, hv, by omega, rest⟩
theorem Own.alloc (h : Own w base A c xs) (o : Obj) : Own (w.alloc o) base A c xs := World.ownsRow.alloc h o
theorem Own.drew (h : Own w base A c xs) : Own w.drew base A c xs := h
theorem Own.drewN (h : Own w base A c xs) (n : Nat) : Own (w.drewN n) base A c xs := h
/-- An address, where there is a number. -/
theorem Own.form (h : Own w base A c xs) (hn : 0 < xs.length) : ∃ g cap cur, A = some ⟨g, 0, none⟩ ∧ base ≤ g ∧ g < w.heap.size ∧ w.heap[g]? = some (.cells cur 3 (0, 0)) ∧ c = cap ∧ xs.length ≤ cap ∧ cap ≤ maxLen ∧ cur.size = cap ∧ cur.toList.take xs.length = ints xs := by
  rcases h.2 with ⟨_, h0⟩ | ⟨g, cap, cur, hv, hb, hg, h1, h2, h3, h4⟩
  · omega
  · injection hv with hA _ hc
    exact ⟨g, cap, cur, hA, hb, (Array.getElem?_eq_some_iff.1 hg).1, hg, hc, h1, h2, by simpa using h3, by simpa using h4⟩
/-- A number stored. -/
theorem Own.set_ {g : Nat} (h : Own w base (some ⟨g, 0, none⟩) c xs) (k : Nat) (hk : k < xs.length) (x : Int) : Own (w.setCell ⟨g, k, none⟩ (.int .i64 x)) base (some ⟨g, 0, none⟩) c (xs.set k x) := by
  have h1 := World.ownsRow.stored (g := g) (cap := c) h k (.int .i64 x)
  unfold Own
  rw [List.length_set]
  have e : ints (xs.set k x) = (ints xs).set k (.int .i64 x) := by simp [ints, List.map_set]
  rw [e]; exact h1.1
theorem Own.cell {g : Nat} (h : Own w base (some ⟨g, 0, none⟩) c xs) (k : Nat) (hk : k < xs.length) : w.cell? ⟨g, k, none⟩ = some (.int .i64 (xs.getD k 0)) := by
  have h1 := World.ownsRow.cellAt (g := g) (cap := c) h k (by omega)
  rw [h1]; exact ints_get xs k hk
theorem Own.frozen {g : Nat} (h : Own w base (some ⟨g, 0, none⟩) c xs) (k : Nat) : w.frozen? ⟨g, k, none⟩ = false := World.ownsRow.frozenAt h k
end

/-! A block known whole. -/
def Blk (w : World) (g : Nat) (t : TypeId) (cs : Array Value) : Prop := w.heap[g]? = some (.cells cs t (0, 0))
section
variable {w w' : World} {g : Nat} {t : TypeId} {cs : Array Value}
theorem Blk.lt (h : Blk w g t cs) : g < w.heap.size := by
  rcases Nat.lt_or_ge g w.heap.size with hlt | hge
  · exact hlt
  · unfold Blk at h; rw [Array.getElem?_eq_none hge] at h; cases h
theorem Blk.cell (h : Blk w g t cs) (i : Nat) : w.cell? ⟨g, i, none⟩ = cs[i]? := cell_of_row w g i cs t (0, 0) h
theorem Blk.frozen (h : Blk w g t cs) (i : Nat) : w.frozen? ⟨g, i, none⟩ = false := by
  unfold Blk at h
  simp [World.frozen?, h]
theorem Blk.new (w : World) (t : TypeId) (cs : Array Value) : Blk (w.alloc (.cells cs t)) w.heap.size t cs := heap_alloc_new w _
theorem Blk.drew (h : Blk w g t cs) : Blk w.drew g t cs := h
theorem Blk.drewN (h : Blk w g t cs) (n : Nat) : Blk (w.drewN n) g t cs := h
theorem Blk.alloc (h : Blk w g t cs) (o : Obj) : Blk (w.alloc o) g t cs := (Below.heap_alloc w o g h.lt).trans h
theorem Blk.set_ (h : Blk w g t cs) (i : Nat) (u : Value) : Blk (w.setCell ⟨g, i, none⟩ u) g t (cs.setIfInBounds i u) := by
  unfold Blk at h ⊢
  simp [World.setCell, Array.getElem?_modify, h]
theorem Blk.far (h : Blk w g t cs) {p : Addr} (hp : g ≠ p.block) (u : Value) : Blk (w.setCell p u) g t cs := (Below.heap_setCell w p u g hp).trans h
theorem Blk.below {B : Nat} (h : Blk w g t cs) (hb : Below B w w') (hg : g < B) : Blk w' g t cs := (hb.block g hg).trans h
theorem Blk.below' (h : Blk w g t cs) (hb : Below w.heap.size w w') : Blk w' g t cs := (hb.block g h.lt).trans h
theorem Blk.grown {row : Option Nat} (h : Blk w g t cs) (hb : w.grownBy w' row) (hg : some g ≠ row) : Blk w' g t cs := (hb.block g h.lt hg).trans h
theorem Blk.ne_ {g' : Nat} {t' : TypeId} {cs' : Array Value} (h : Blk w g t cs) (h' : Blk w g' t' cs') (hne : t ≠ t') : g ≠ g' := by
  rintro rfl
  unfold Blk at h h'
  rw [h] at h'
  injection h' with h'
  injection h' with _ ht
  exact hne ht
end

/-- A block of numbers. -/
def IB (w : World) (g : Nat) (t : TypeId) (xs : List Int) : Prop := Blk w g t (agi xs)
section
variable {w w' : World} {g : Nat} {t : TypeId} {xs : List Int}
theorem IB.cell (h : IB w g t xs) (i : Nat) (hi : i < xs.length) : w.cell? ⟨g, i, none⟩ = some (.int .i64 (xs.getD i 0)) := (Blk.cell h i).trans (agi_get xs i hi)
theorem IB.set_ (h : IB w g t xs) (i : Nat) (x : Int) : IB (w.setCell ⟨g, i, none⟩ (.int .i64 x)) g t (xs.set i x) := by
  have h1 := Blk.set_ h i (.int .i64 x)
  rw [agi_set] at h1
  exact h1
theorem IB.new (w : World) (t : TypeId) (xs : List Int) : IB (w.alloc (.cells (agi xs) t)) w.heap.size t xs := Blk.new w t _
end

theorem get_set_same (xs : List Int) (k : Nat) (v : Int) (h : k < xs.length) : (xs.set k v).getD k 0 = v := by simp [h]
theorem get_set_other (xs : List Int) {k j : Nat} (v : Int) (h : k ≠ j) : (xs.set k v).getD j 0 = xs.getD j 0 := by
  simp [h]
theorem list_ext {xs ys : List Int} (hl : xs.length = ys.length) (h : ∀ k, k < xs.length → xs.getD k 0 = ys.getD k 0) : xs = ys := by
  apply List.ext_getElem hl
  intro k h1 h2
  have := h k h1
  simpa [List.getD_eq_getElem?_getD, h1, h2] using this

/-! What an argument holds. -/
section
variable {P : Program} {w : World} {r : Reach} {b : Nat} {t : TypeId} {v : Value}
theorem range_i64 {n : Int} (h : IntKind.i64.has n) : -9223372036854775808 ≤ n ∧ n ≤ 9223372036854775807 := by
  have h1 := h.1
  have h2 := h.2
  simp [IntKind.min, IntKind.max, IntKind.signed, IntKind.bits] at h1 h2
  omega
theorem cell_int {k : IntKind} (ht : P.underlying t = some (.int k)) (h : Cell.okWide P w r b t v) : ∃ n, v = .int k n ∧ k.has n := by
  unfold Cell.okWide at h
  simp only [ht] at h
  unfold Cell.ok at h
  simp only [ht] at h
  cases v <;> simp_all
theorem cell_bool (ht : P.underlying t = some .bool) (h : Cell.okWide P w r b t v) : ∃ n, v = .bool n := by
  unfold Cell.okWide at h
  simp only [ht] at h
  unfold Cell.ok at h
  simp only [ht] at h
  cases v <;> simp_all
theorem value_int {k : IntKind} (ht : P.underlying t = some (.int k)) (h : Value.okWide P w r b t v) : ∃ n, v = .int k n ∧ k.has n := by
  unfold Value.okWide at h
  simp only [ht] at h
  exact cell_int ht h
theorem value_bool (ht : P.underlying t = some .bool) (h : Value.okWide P w r b t v) : ∃ n, v = .bool n := by
  unfold Value.okWide at h
  simp only [ht] at h
  exact cell_bool ht h

def isAggD : TypeDesc → Bool
  | .struct _ => true
  | .array _ _ => true
  | _ => false
/-- An aggregate whose cells are numbers. -/
theorem value_agi {d : TypeDesc} {n : Nat} {ti : TypeId} (ht : P.underlying t = some d) (hd : isAggD d = true) (hc : P.cellTypes P.depth t = some (List.replicate n ti)) (hn : P.cellsOf t = n) (hti : P.underlying ti = some (.int .i64)) (h0 : 0 < n)
    (h : Value.okWide P w r b t v) : ∃ xs, v = .agg (agi xs) ∧ xs.length = n ∧ W64 xs := by
  unfold Value.okWide at h
  rw [ht] at h
  have h' : ∃ cs, v = .agg cs ∧ cs.size = P.cellsOf t ∧ Row.okWide P w r b t cs := by
    cases d <;> first | exact h | (simp [isAggD] at hd)
  obtain ⟨cs, rfl, hs, ts, hts, _, hall⟩ := h'
  rw [hc] at hts
  obtain rfl : List.replicate n ti = ts := by simpa using hts
  have each : ∀ (i : Nat) (u : Value), cs[i]? = some u → ∃ z, u = Value.int .i64 z ∧ IntKind.i64.has z := by
    intro i u hu
    obtain ⟨q, hq, hk⟩ := hall i u hu
    have hq2 : q = ti := by
      have := List.mem_of_getElem? hq
      exact (List.mem_replicate.1 this).2
    subst hq2
    exact cell_int hti hk
  refine ⟨cs.toList.map intOf, ?_, by simpa using hs.trans hn, ?_⟩
  · have : cs.toList = ints (cs.toList.map intOf) := by
      unfold ints
      rw [List.map_map]
      apply List.ext_getElem
      · simp
      · intro i h1 h2
        simp only [List.getElem_map, Function.comp]
        obtain ⟨z, hz, _⟩ := each i cs.toList[i] (by simp)
        rw [hz]; rfl
    unfold agi
    rw [← this]
  · intro x hx
    obtain ⟨u, hu, rfl⟩ := List.mem_map.1 hx
    obtain ⟨i, hi⟩ := List.getElem?_of_mem hu
    obtain ⟨z, rfl, hz⟩ := each i u (by simpa using hi)
    exact range_i64 hz
end

section
open Go.ChangeShapes
variable {H : Type} {enc : TypeId × Value → H} {P : Program} {w : World}

theorem trod_slice_form {t e : TypeId} {v : Value} {d : DataW H} {ps : List MemPlace} (ht : P.underlying t = some (.slice e)) (he : P.underlying e = some (.int .i64)) (hc : P.cellsOf e = 1) (hb : P.bytesOf e = 8)
    (h : DataW.Trod enc P w 0 (fun _ => true) true t v d ps) {ts : List TypeId} {ds : List (DataW H)} {j : Nat} (hsz : (DataW.weightsEach P ts ds).all (· ≤ reachBytes) = true) (htj : ts[j]? = some t) (hdj : ds[j]? = some d) (hv : ∃ A n c, v = .slice A n c) :
    ∃ A c xs, v = .slice A xs.length c ∧ Rs w w.heap.size A xs ∧ W64 xs ∧ xs.length ≤ c ∧ c * 8 ≤ 140737488351232 := by
  obtain ⟨A, n, c, rfl⟩ := hv
  obtain ⟨fuel, hf⟩ := h
  have hf' : DataW.trod enc P w 0 (fun _ => true) true fuel t [.slice A n c] = some (d, ps) := by simpa [Value.cells] using hf
  rcases open_ints ht he hc hf' with ⟨h1, _⟩ | ⟨a, len, cap, zs, h1, _, hl, hm, hlen, hx, hcell, hwf⟩
  · simp only [List.cons.injEq, Value.slice.injEq, and_true] at h1
    obtain ⟨rfl, rfl, rfl⟩ := h1
    exact ⟨none, 0, [], rfl, Rs.nil, by intro x hx; simp at hx, by simp, by omega⟩
  · simp only [List.cons.injEq, Value.slice.injEq, and_true] at h1
    obtain ⟨rfl, rfl, rfl⟩ := h1
    simp only [if_true] at hlen
    simp only [Prod.mk.injEq] at hx
    obtain ⟨hd, _⟩ := hx
    have htl : (zs.take n).length = n := by rw [List.length_take]; omega
    have hwt := sized_slice (P := P) (elems := lits .i64 (zs.take n)) (spare := lits .i64 (zs.drop n)) hsz (j := j) (t := t) (e := e) htj (by rw [hdj, hd]) ht
    rw [hb] at hwt
    simp only [lits, List.length_map, List.length_take, List.length_drop, reachBytes] at hwt
    refine ⟨some a, c, zs.take n, by rw [htl], ⟨by simp [ints], fun hn => ⟨a, rfl, ?_, ?_⟩⟩, ?_, by omega, by omega⟩
    · have := World.block_lt_of_cell? w _ (hcell 0 (by omega))
      rwa [block_of_add] at this
    · intro j u hu
      have hj : j < (zs.take n).length := by
        have := (List.getElem?_eq_some_iff.1 hu).1
        simpa [ints] using this
      rw [ints_get _ j hj] at hu
      rw [hcell j (by omega), ← hu]
      congr 2
      simp only [List.getD_eq_getElem?_getD, List.getElem?_take]
      rw [if_pos (by omega)]
    · intro x hx
      have := hwf x (List.mem_of_mem_take hx)
      simp [Lit.wf, IntKind.min, IntKind.max, IntKind.signed, IntKind.bits] at this
      omega
theorem value_slice {P : Program} {w : World} {r : Reach} {b : Nat} {t e : TypeId} {v : Value} (ht : P.underlying t = some (.slice e)) (h : Value.okWide P w r b t v) : ∃ A n c, v = .slice A n c := by
  unfold Value.okWide at h
  simp only [ht] at h
  unfold Cell.okWide at h
  simp only [ht] at h
  unfold Cell.ok at h
  simp only [ht] at h
  split at h <;> simp_all

/-- The arguments read behind a call as they did before it. -/
theorem argsStay {W W' : World} (hl : laidOutB P = true) (hb : Below W.heap.size W W') : ∀ {ts : List TypeId} {vs : List Value} {ds : List (DataW H)} {ps : List MemPlace}, (∀ t ∈ ts, P.readableRec t = true ∧ t < P.types.size) →
    DataW.TrodAll enc P W 0 (fun _ => true) true ts vs ds ps → (∀ x ∈ ps, x.block < W.heap.size) → DataW.TrodAll enc P W' 0 (fun b => decide (b < W.heap.size)) true ts vs ds ps
  | [], [], [], _, _, h, _ => h
  | t :: _, _ :: _, _ :: _, _, hT, ⟨p, q, h1, h2, e⟩, hs =>
    ⟨p, q, Below.trod hl (hT t (List.mem_cons.2 (Or.inl rfl))).1 (hT t (List.mem_cons.2 (Or.inl rfl))).2 h1 hb (fun x hx => hs x (by rw [e]; exact List.mem_append_left _ hx)),
      argsStay hl hb (fun t ht => hT t (List.mem_cons.2 (Or.inr ht))) h2 (fun x hx => hs x (by rw [e]; exact List.mem_append_right _ hx)), e⟩
end
end Go.Proofs.YthoiikkjjaldnaaGreatDoor

/- append onto a row of numbers of the call's own. -/
namespace Go.Proofs.YthoiikkjjaldnaaGreatDoor
set_option linter.unusedVariables false
set_option linter.unusedSimpArgs false
set_option maxRecDepth 100000
open Go.RowKit

theorem infoI : (Tryz.prog.info? 3).map (fun i => (i.zero, i.size, i.bytes)) = some (some (.int .i64 0), 1, 8) := by kernel_rfl

section
variable {P : Program} (w : World)

theorem run_append_of_nil (base : Nat) (t ty e : TypeId) (i : TypeInfo) (size : Nat) (ht : P.underlying t = some (.slice e)) (hi : P.info? e = some i)
    (v : Value) (n : Nat) (xs : List Value) (hown : w.ownsRow base e size v n xs) (c : Nat) : (Builtin.append_ #[t, t] ty #[v, .slice none 0 c]).run P w = .ok v w := by
  rcases hown.2 with ⟨rfl, rfl⟩ | ⟨g, cap, cur, rfl, _, _, hnc, _⟩
  · simp [Builtin.append_, run_underlying ht, sizeOf, typeInfo, hi, Builtin.lenOf, Builtin.firstCells]
  · simp [Builtin.append_, run_underlying ht, sizeOf, typeInfo, hi, Builtin.lenOf, Builtin.firstCells, hnc, storeCells]

theorem run_append_any (base : Nat) (t ty e : TypeId) (i : TypeInfo) (z : Value) (size bytes : Nat) (ht : P.underlying t = some (.slice e)) (hi : P.info? e = some i) (hz : i.zero = some z)
    (hsize : i.size = size) (hby : i.bytes = bytes) (hzs : z.cells.size = size) (hsz : 0 < size)
    (v : Value) (n : Nat) (xs : List Value) (hown : w.ownsRow base e size v n xs)
    (B : Nat) (A : Option Addr) (m c : Nat) (news : List Value) (hr : Reads w B size A m news) (h1 : ∀ u ∈ news, u.oneCell' = true)
    (h63 : n + m ≤ maxLen) (hbytes : (n + m) * bytes ≤ 140737488355328) (hbase : base ≤ w.heap.size) :
    ∃ v' w', (Builtin.append_ #[t, t] ty #[v, .slice A m c]).run P w = .ok v' w' ∧ w'.ownsRow base e size v' (n + m) (xs ++ news) ∧ w.grownBy w' v.ownBlock ∧
      (v'.ownBlock = v.ownBlock ∨ v'.ownBlock = some w.heap.size) := by
  rcases A with _ | ad
  · have hm : m = 0 := by
      rcases Nat.eq_zero_or_pos m with h0 | h0
      · exact h0
      · obtain ⟨ad, h, _⟩ := hr.2 h0
        cases h
    subst hm
    have hn : news = [] := List.eq_nil_of_length_eq_zero (by simpa using hr.1)
    subst hn
    exact ⟨v, w, run_append_of_nil w base t ty e i size ht hi v n xs hown c, by simpa using hown, World.grownBy.refl w _, .inl rfl⟩
  · have hcells : ∀ j u, news[j]? = some u → w.cell? (ad.add j) = some u := by
      intro j u hu
      rcases Nat.eq_zero_or_pos m with h0 | h0
      · subst h0
        have hn : news = [] := List.eq_nil_of_length_eq_zero (by simpa using hr.1)
        subst hn
        simp at hu
      · obtain ⟨ad', h, _, hc⟩ := hr.2 h0
        injection h with h
        subst h
        exact hc j u hu
    obtain ⟨v', w', hrun, h2, h3, _, h5⟩ := run_append_own_at (P := P) w base t ty e i z size bytes ht hi hz hsize hby hzs hsz v n xs hown ad m c news hr.1 hcells h1 h63 hbytes hbase
    exact ⟨v', w', hrun, h2, h3, h5⟩
end

theorem Own.head {w : World} {base c : Nat} {A : Option Addr} {xs : List Int} (h : Own w base A c xs) (hn : 0 < xs.length) : ∃ g, A = some ⟨g, 0, none⟩ ∧ base ≤ g ∧ g < w.heap.size := by
  obtain ⟨g, _, _, hA, h1, h2, _⟩ := h.form hn
  exact ⟨g, hA, h1, h2⟩
theorem cell_new (w : World) (v : Value) (t : TypeId) : (w.alloc (.cells #[v] t)).cell? ⟨w.heap.size, 0, none⟩ = some v := by
  rw [Blk.cell (Blk.new w t #[v]) 0]; rfl

theorem own_form {w : World} {base n : Nat} {v : Value} {vs : List Value} {ys : List Int} (h : w.ownsRow base 3 1 v n vs) (hv : vs = ints ys) : ∃ A c, v = .slice A ys.length c ∧ Own w base A c ys := by
  subst hv
  have hl : ys.length = n := by have := h.1; simpa [ints] using this
  subst hl
  rcases h.2 with ⟨hv, hn⟩ | ⟨g, cap, cur, hv, rest⟩
  · subst hv
    refine ⟨none, 0, by rw [hn], ?_⟩
    unfold Own
    rw [hn] at h ⊢
    exact h
  · subst hv
    exact ⟨_, _, rfl, h⟩

/-- append of numbers that read. -/
theorem wpList_cat {ops : Array Oper} {rest : List Oper} {o : Oper} {a : Act} {w : World} {Q : Exit → Act → World → Prop} (hgd : o.guard = none) (s x : Operand)
    (ho : o.op = .call { callee := .builtin .append, args := #[s, x], argTypes := #[27, 27] })
    (base : Nat) (A : Option Addr) (c : Nat) (xs : List Int) (hs : a.eval s = .slice A xs.length c) (hown : Own w base A c xs)
    (B : Nat) (A2 : Option Addr) (c2 : Nat) (ys : List Int) (hx : a.eval x = .slice A2 ys.length c2) (hr : Rs w B A2 ys) (hlen : xs.length + ys.length ≤ 17592186044416) (hbase : base ≤ w.heap.size)
    (h : ∀ A' c' w', Own w' base A' c' (xs ++ ys) → w.grownBy w' (A.map (·.block)) → (A' = A ∨ ∃ g, A' = some ⟨g, 0, none⟩ ∧ w.heap.size ≤ g) → wpList Tryz.prog ops Q rest (a.put o.dst (.slice A' (xs.length + ys.length) c')) w') : wpList Tryz.prog ops Q (o :: rest) a w := by
  obtain ⟨i0, hi, hz0, hz1, hz2⟩ := info_parts infoI
  refine wpList_plain hgd fun K hK => ?_
  obtain ⟨v', w', hrun, h2, h3, h4⟩ := run_append_any (P := Tryz.prog) w base 27 o.type 3 i0 (.int .i64 0) 1 8 Tryz.underlying27 hi hz0 hz1 hz2 rfl (by omega) _ _ _ hown B A2 ys.length c2 (ints ys) hr (ints_one ys) (by unfold maxLen; omega) (by omega) hbase
  have hlt := fun a ha => Own.lt hown a ha
  obtain ⟨A', c', rfl, hO⟩ := own_form h2 (ints_append xs ys)
  have hl : (xs ++ ys).length = xs.length + ys.length := by simp
  unfold Oper.wp execOp
  simp only [ho, resolve, invoke, builtin, Sem.run_bind, Sem.run_pure, Result.andThen_ok, List.map_toArray, List.map_cons, List.map_nil, hs, hx, hrun]
  refine hK _ _ ?_
  rw [hl]
  refine h A' c' w' hO (by cases A <;> exact h3) ?_
  have hn := hO.2
  rcases hn with ⟨hv, h0⟩ | ⟨g, cap, cur, hv, _⟩
  · injection hv with hA _ _
    subst hA
    left
    cases A with
    | none => rfl
    | some ad =>
      rcases h4 with h4 | h4
      · simp [Value.ownBlock] at h4
      · simp [Value.ownBlock] at h4
  · injection hv with hA _ _
    subst hA
    rcases h4 with h4 | h4
    · left
      cases A with
      | none => simp [Value.ownBlock] at h4
      | some ad =>
        simp [Value.ownBlock] at h4
        rcases hown.2 with ⟨hv2, _⟩ | ⟨g2, cap2, cur2, hv2, _⟩
        · cases hv2
        · injection hv2 with hA2 _ _
          injection hA2 with hA2
          subst hA2
          simp at h4
          subst h4
          rfl
    · right
      simp [Value.ownBlock] at h4
      exact ⟨g, rfl, by omega⟩

/-- append of one number. -/
theorem wpList_push {ops : Array Oper} {rest : List Oper} {o : Oper} {a : Act} {w : World} {Q : Exit → Act → World → Prop} (hgd : o.guard = none) (s x : Operand)
    (ho : o.op = .call { callee := .builtin .append, args := #[s, x], argTypes := #[27, 27] })
    (base : Nat) (A : Option Addr) (c : Nat) (xs : List Int) (hs : a.eval s = .slice A xs.length c) (hown : Own w base A c xs)
    (ad : Addr) (y : Int) (hx : a.eval x = .slice (some ad) 1 1) (hc : w.cell? ad = some (.int .i64 y)) (hlen : xs.length + 1 ≤ 17592186044416) (hbase : base ≤ w.heap.size)
    (h : ∀ A' c' w', Own w' base A' c' (xs ++ [y]) → w.grownBy w' (A.map (·.block)) → (A' = A ∨ ∃ g, A' = some ⟨g, 0, none⟩ ∧ w.heap.size ≤ g) → wpList Tryz.prog ops Q rest (a.put o.dst (.slice A' (xs.length + 1) c')) w') : wpList Tryz.prog ops Q (o :: rest) a w :=
  wpList_cat hgd s x ho base A c xs hs hown (ad.block + 1) (some ad) 1 [y] hx ⟨by simp [ints], fun _ => ⟨ad, rfl, by omega, fun j u hj => by
    match j, hj with
    | 0, hj => simp [ints] at hj; subst hj; have e : ad.add 0 = ad := by unfold Addr.add; simp
               rw [e]; exact hc⟩⟩ hlen hbase h
end Go.Proofs.YthoiikkjjaldnaaGreatDoor

/- append, the length as it is written. -/
namespace Go.Proofs.YthoiikkjjaldnaaGreatDoor
set_option linter.unusedVariables false
set_option linter.unusedSimpArgs false
set_option maxRecDepth 100000
open Go.RowKit

theorem wpList_pushN {ops : Array Oper} {rest : List Oper} {o : Oper} {a : Act} {w : World} {Q : Exit → Act → World → Prop} (hgd : o.guard = none) (s x : Operand)
    (ho : o.op = .call { callee := .builtin .append, args := #[s, x], argTypes := #[27, 27] })
    (base : Nat) (A : Option Addr) (c n : Nat) (xs : List Int) (hs : a.eval s = .slice A n c) (hn : xs.length = n) (hown : Own w base A c xs)
    (ad : Addr) (y : Int) (hx : a.eval x = .slice (some ad) 1 1) (hc : w.cell? ad = some (.int .i64 y)) (hlen : n + 1 ≤ 17592186044416) (hbase : base ≤ w.heap.size)
    (h : ∀ A' c' w', Own w' base A' c' (xs ++ [y]) → w.grownBy w' (A.map (·.block)) → (A' = A ∨ ∃ g, A' = some ⟨g, 0, none⟩ ∧ w.heap.size ≤ g) → wpList Tryz.prog ops Q rest (a.put o.dst (.slice A' (n + 1) c')) w') : wpList Tryz.prog ops Q (o :: rest) a w := by
  subst hn
  exact wpList_push hgd s x ho base A c xs hs hown ad y hx hc hlen hbase h
theorem wpList_catN {ops : Array Oper} {rest : List Oper} {o : Oper} {a : Act} {w : World} {Q : Exit → Act → World → Prop} (hgd : o.guard = none) (s x : Operand)
    (ho : o.op = .call { callee := .builtin .append, args := #[s, x], argTypes := #[27, 27] })
    (base : Nat) (A : Option Addr) (c n : Nat) (xs : List Int) (hs : a.eval s = .slice A n c) (hn : xs.length = n) (hown : Own w base A c xs)
    (B : Nat) (A2 : Option Addr) (c2 m : Nat) (ys : List Int) (hx : a.eval x = .slice A2 m c2) (hm : ys.length = m) (hr : Rs w B A2 ys) (hlen : n + m ≤ 17592186044416) (hbase : base ≤ w.heap.size)
    (h : ∀ A' c' w', Own w' base A' c' (xs ++ ys) → w.grownBy w' (A.map (·.block)) → (A' = A ∨ ∃ g, A' = some ⟨g, 0, none⟩ ∧ w.heap.size ≤ g) → wpList Tryz.prog ops Q rest (a.put o.dst (.slice A' (n + m) c')) w') : wpList Tryz.prog ops Q (o :: rest) a w := by
  subst hn
  subst hm
  exact wpList_cat hgd s x ho base A c xs hs hown B A2 c2 ys hx hr hlen hbase h

/-- What lies below the row's base is as it was. -/
theorem below_grown {a w w' : World} {base : Nat} {A : Option Addr} {c : Nat} {xs : List Int} (hB : Below base a w) (hO : Own w base A c xs) (hG : w.grownBy w' (A.map (·.block))) (hb : base ≤ w.heap.size) : Below base a w' :=
  hB.grown hG hb (fun k hk => by
    cases A with
    | none => cases hk
    | some ad => simp at hk; subst hk; exact (hO.lt ad rfl).1)
/-- A block that is not the row's stays. -/
theorem Blk.grownA {w w' : World} {g : Nat} {t : TypeId} {cs : Array Value} {A : Option Addr} (h : Blk w g t cs) (hG : w.grownBy w' (A.map (·.block))) (hne : ∀ ad, A = some ad → ad.block ≠ g) : Blk w' g t cs :=
  Blk.grown h hG (fun e => by
    cases A with
    | none => cases e
    | some ad => simp at e; exact hne ad rfl e.symm)
/-- Where a row has moved to, it is not an elder block. -/
theorem moved_ne {w : World} {A A' : Option Addr} {g : Nat} (h : A' = A ∨ ∃ g', A' = some ⟨g', 0, none⟩ ∧ w.heap.size ≤ g') (hne : ∀ ad, A = some ad → ad.block ≠ g) (hg : g < w.heap.size) : ∀ ad, A' = some ad → ad.block ≠ g := by
  rcases h with rfl | ⟨g', rfl, hg'⟩
  · exact hne
  · intro ad had
    injection had with had
    subst had
    show g' ≠ g
    omega
end Go.Proofs.YthoiikkjjaldnaaGreatDoor

/- Slices of bytes; a call of a desk as an argument. -/
namespace Go.Proofs.YthoiikkjjaldnaaGreatDoor
set_option linter.unusedVariables false
set_option linter.unusedSimpArgs false
set_option maxRecDepth 100000
open Go.RowKit

def bts (xs : List Int) : List Value := xs.map (Value.int .u8)
theorem bts_len (xs : List Int) : (bts xs).length = xs.length := by simp [bts]
theorem bts_get (xs : List Int) (k : Nat) (h : k < xs.length) : (bts xs)[k]? = some (.int .u8 (xs.getD k 0)) := by simp [bts, h]
theorem bts_one (xs : List Int) : ∀ u ∈ bts xs, u.oneCell' = true := ints_oneCell .u8 xs
theorem bts_append (xs ys : List Int) : bts xs ++ bts ys = bts (xs ++ ys) := by simp [bts]
/-- A slice of bytes that reads. -/
def Rb (w : World) (B : Nat) (A : Option Addr) (xs : List Int) : Prop := Reads w B 1 A xs.length (bts xs)
/-- A row of bytes of a call's own. -/
def OwnB (w : World) (base : Nat) (A : Option Addr) (c : Nat) (xs : List Int) : Prop := w.ownsRow base 5 1 (.slice A xs.length c) xs.length (bts xs)
theorem infoB : (Tryz.prog.info? 5).map (fun i => (i.zero, i.size, i.bytes)) = some (some (.int .u8 0), 1, 1) := by kernel_rfl
section
variable {w w' : World} {B B' : Nat} {A : Option Addr} {xs : List Int}
theorem Rb.below (h : Rb w B A xs) (hb : Below B w w') : Rb w' B A xs := Reads.below h hb
theorem Rb.more (h : Rb w B A xs) (hB : B ≤ B') : Rb w B' A xs := Reads.more h hB
theorem Rb.at_ {k : Nat} (h : Rb w B A xs) (hk : k < xs.length) : ∃ ad, A = some ad ∧ ad.block < B ∧ w.cell? (ad.add k) = some (.int .u8 (xs.getD k 0)) := by
  obtain ⟨ad, e, hb, hc⟩ := h.2 (by omega)
  exact ⟨ad, e, hb, hc k _ (bts_get xs k hk)⟩
theorem Rb.ad (h : Rb w B A xs) (hk : 0 < xs.length) : ∃ ad, A = some ad ∧ ad.block < B ∧ ∀ k, k < xs.length → w.cell? (ad.add k) = some (.int .u8 (xs.getD k 0)) := by
  obtain ⟨ad, e, hb, hc⟩ := h.2 hk
  exact ⟨ad, e, hb, fun k hk => hc k _ (bts_get xs k hk)⟩
theorem Rb.nil : Rb w B A [] := Reads.none_
theorem OwnB.nil {base : Nat} : OwnB w base none 0 [] := World.ownsRow_nil w base _ _
theorem OwnB.reads {base c : Nat} (h : OwnB w base A c xs) : Rb w w.heap.size A xs := Reads.of_own h
theorem OwnB.below {base c : Nat} (h : OwnB w base A c xs) (hb : Below w.heap.size w w') : OwnB w' base A c xs :=
  World.ownsRow.kept h (row := none) ⟨hb.os, hb.tape, hb.output, hb.size, fun k hk _ => hb.block k hk⟩ (by cases A <;> simp [Value.ownBlock])
theorem OwnB.cap {base c : Nat} (h : OwnB w base A c xs) : xs.length ≤ c ∧ c ≤ 9223372036854775807 := by
  rcases h.2 with ⟨hv, hn⟩ | ⟨g, cap, cur, hv, hb, hg, h1, h2, _⟩
  · injection hv with _ _ hc
    omega
  · injection hv with _ _ hc
    unfold maxLen at h2
    omega
theorem OwnB.lt {base c : Nat} (h : OwnB w base A c xs) : ∀ a, A = some a → base ≤ a.block ∧ a.block < w.heap.size := fun a ha => by
  subst ha
  exact World.ownsRow.lt h a.block rfl
theorem OwnB.ne_ {base c g : Nat} (h : OwnB w base A c xs) (hg : g < base) : ∀ ad, A = some ad → ad.block ≠ g := fun ad e => by
  have := (h.lt ad e).1
  omega
end
theorem own_formB {w : World} {base n : Nat} {v : Value} {vs : List Value} {ys : List Int} (h : w.ownsRow base 5 1 v n vs) (hv : vs = bts ys) : ∃ A c, v = .slice A ys.length c ∧ OwnB w base A c ys := by
  subst hv
  have hl : ys.length = n := by have := h.1; simpa [bts] using this
  subst hl
  rcases h.2 with ⟨hv, hn⟩ | ⟨g, cap, cur, hv, rest⟩
  · subst hv
    refine ⟨none, 0, by rw [hn], ?_⟩
    unfold OwnB
    rw [hn] at h ⊢
    exact h
  · subst hv
    exact ⟨_, _, rfl, h⟩
/-- append of bytes that read. -/
theorem wpList_catB {ops : Array Oper} {rest : List Oper} {o : Oper} {a : Act} {w : World} {Q : Exit → Act → World → Prop} (hgd : o.guard = none) (s x : Operand)
    (ho : o.op = .call { callee := .builtin .append, args := #[s, x], argTypes := #[26, 26] })
    (base : Nat) (A : Option Addr) (c n : Nat) (xs : List Int) (hs : a.eval s = .slice A n c) (hn : xs.length = n) (hown : OwnB w base A c xs)
    (B : Nat) (A2 : Option Addr) (c2 m : Nat) (ys : List Int) (hx : a.eval x = .slice A2 m c2) (hm : ys.length = m) (hr : Rb w B A2 ys) (hlen : n + m ≤ 140737488355328) (hbase : base ≤ w.heap.size)
    (h : ∀ A' c' w', OwnB w' base A' c' (xs ++ ys) → w.grownBy w' (A.map (·.block)) → wpList Tryz.prog ops Q rest (a.put o.dst (.slice A' (n + m) c')) w') : wpList Tryz.prog ops Q (o :: rest) a w := by
  subst hn
  subst hm
  obtain ⟨i0, hi, hz0, hz1, hz2⟩ := info_parts infoB
  refine wpList_plain hgd fun K hK => ?_
  obtain ⟨v', w', hrun, h2, h3, h4⟩ := run_append_any (P := Tryz.prog) w base 26 o.type 5 i0 (.int .u8 0) 1 1 Tryz.underlying26 hi hz0 hz1 hz2 rfl (by omega) _ _ _ hown B A2 ys.length c2 (bts ys) hr (bts_one ys) (by unfold maxLen; omega) (by omega) hbase
  obtain ⟨A', c', rfl, hO⟩ := own_formB h2 (bts_append xs ys)
  have hl : (xs ++ ys).length = xs.length + ys.length := by simp
  unfold Oper.wp execOp
  simp only [ho, resolve, invoke, builtin, Sem.run_bind, Sem.run_pure, Result.andThen_ok, List.map_toArray, List.map_cons, List.map_nil, hs, hx, hrun]
  refine hK _ _ ?_
  rw [hl]
  exact h A' c' w' hO (by cases A <;> exact h3)

/-! What an argument of slices holds. -/
section
open Go.ChangeShapes
variable {H : Type} {enc : TypeId × Value → H} {P : Program} {w : World}
/-- A slice of numbers read at any place. -/
theorem slice_reads {t e : TypeId} {k : IntKind} {A : Option Addr} {n c fuel : Nat} {d : DataW H} {ps : List MemPlace} (ht : P.underlying t = some (.slice e)) (he : P.underlying e = some (.int k)) (hc : P.cellsOf e = 1)
    (h : DataW.trod enc P w 0 (fun _ => true) true fuel t [.slice A n c] = some (d, ps)) (hd : ∀ x ∈ d.weights P t, x ≤ reachBytes) :
    ∃ xs : List Int, xs.length = n ∧ n ≤ c ∧ c * P.bytesOf e ≤ 140737488351232 ∧ Reads w w.heap.size 1 A n (xs.map (Value.int k)) ∧ ∀ x ∈ xs, k.has x := by
  rcases open_ints ht he hc h with ⟨h1, _⟩ | ⟨a, len, cap, zs, h1, _, hl, hm, hlen, hx, hcell, hwf⟩
  · simp only [List.cons.injEq, Value.slice.injEq, and_true] at h1
    obtain ⟨rfl, rfl, rfl⟩ := h1
    exact ⟨[], rfl, by omega, by omega, Reads.none_, by intro x hx; simp at hx⟩
  · simp only [List.cons.injEq, Value.slice.injEq, and_true] at h1
    obtain ⟨rfl, rfl, rfl⟩ := h1
    simp only [if_true] at hlen
    simp only [Prod.mk.injEq] at hx
    obtain ⟨rfl, _⟩ := hx
    have htl : (zs.take n).length = n := by rw [List.length_take]; omega
    have hwt := hd (((lits k (zs.take n)).length + (lits k (zs.drop n) : List (DataW H)).length) * P.bytesOf e) (by simp only [DataW.weights, ht]; exact List.mem_cons_self ..)
    simp only [lits, List.length_map, List.length_take, List.length_drop, reachBytes] at hwt
    have hcc : min n zs.length + (zs.length - n) = c := by omega
    rw [hcc] at hwt
    refine ⟨zs.take n, htl, by omega, hwt, ⟨by rw [List.length_map, htl, Nat.mul_one], fun hn => ⟨a, rfl, ?_, ?_⟩⟩, ?_⟩
    · have := World.block_lt_of_cell? w _ (hcell 0 (by omega))
      rwa [block_of_add] at this
    · intro j u hu
      have hj : j < n := by
        have := (List.getElem?_eq_some_iff.1 hu).1
        rwa [List.length_map, htl] at this
      rw [hcell j (by omega), ← hu, List.getElem?_map, List.getElem?_take, if_pos hj, List.getElem?_eq_getElem (by omega)]
      simp [List.getD_eq_getElem?_getD, (show j < zs.length by omega)]
    · intro x hx
      have := hwf x (List.mem_of_mem_take hx)
      simpa [Lit.wf, IntKind.has] using this
end
end Go.Proofs.YthoiikkjjaldnaaGreatDoor

/- Plain facts on numbers as lists of 32-bit words, the least first. No program in sight. -/
namespace Go.Proofs.YthoiikkjjaldnaaGreatDoor
set_option linter.unusedVariables false
set_option linter.unusedSimpArgs false
set_option maxRecDepth 100000

/-- The value of words, the least first. -/
def wv : List Nat → Nat
  | [] => 0
  | a :: l => a + 4294967296 * wv l
def wok (l : List Nat) : Prop := ∀ x ∈ l, x < 4294967296
/-- No nought at the end. -/
def tight (l : List Nat) : Prop := ∀ n, l.length = n + 1 → l.getD n 0 ≠ 0

theorem wok_nil : wok [] := fun _ h => by cases h
theorem tight_nil : tight [] := fun n h => by simp at h
theorem wok_cons {a : Nat} {l : List Nat} : wok (a :: l) ↔ a < 4294967296 ∧ wok l := by
  simp [wok]
theorem wok_append {a b : List Nat} : wok (a ++ b) ↔ wok a ∧ wok b := by
  simp only [wok, List.mem_append]
  constructor
  · intro h; exact ⟨fun x hx => h x (.inl hx), fun x hx => h x (.inr hx)⟩
  · rintro ⟨h1, h2⟩ x (hx | hx)
    · exact h1 x hx
    · exact h2 x hx
theorem getD_elem (l : List Nat) (i : Nat) (h : i < l.length) : l.getD i 0 = l[i] := by
  rw [List.getD_eq_getElem?_getD, List.getElem?_eq_getElem h]; rfl

theorem wok_getD {l : List Nat} (h : wok l) (i : Nat) : l.getD i 0 < 4294967296 := by
  rw [List.getD_eq_getElem?_getD]
  by_cases hi : i < l.length
  · rw [List.getElem?_eq_getElem hi]; exact h _ (List.getElem_mem hi)
  · rw [List.getElem?_eq_none (by omega)]; decide
theorem wok_take {l : List Nat} (h : wok l) (n : Nat) : wok (l.take n) := fun x hx => h x (List.mem_of_mem_take hx)
theorem wok_drop {l : List Nat} (h : wok l) (n : Nat) : wok (l.drop n) := fun x hx => h x (List.mem_of_mem_drop hx)
theorem wok_replicate (n : Nat) : wok (List.replicate n 0) := fun x hx => by
  have := List.eq_of_mem_replicate hx; omega

theorem wv_append (a b : List Nat) : wv (a ++ b) = wv a + 4294967296 ^ a.length * wv b := by
  induction a with
  | nil => simp [wv]
  | cons x l ih =>
    simp only [List.cons_append, wv, ih, List.length_cons, Nat.pow_succ]
    rw [Nat.mul_add, Nat.mul_comm (4294967296 ^ l.length) 4294967296, Nat.mul_assoc, Nat.add_assoc]

theorem wv_lt {l : List Nat} (h : wok l) : wv l < 4294967296 ^ l.length := by
  induction l with
  | nil => simp [wv]
  | cons x l ih =>
    rw [wok_cons] at h
    have := ih h.2
    simp only [wv, List.length_cons, Nat.pow_succ]
    have h2 : wv l + 1 ≤ 4294967296 ^ l.length := this
    have := Nat.mul_le_mul_right 4294967296 h2
    omega

theorem wv_replicate (n : Nat) : wv (List.replicate n 0) = 0 := by
  induction n with
  | zero => rfl
  | succ n ih => simp [List.replicate_succ, wv, ih]

theorem wv_snoc (l : List Nat) (x : Nat) : wv (l ++ [x]) = wv l + 4294967296 ^ l.length * x := by
  rw [wv_append]; simp [wv]

theorem take_succ_getD (l : List Nat) (k : Nat) (h : k < l.length) : l.take (k + 1) = l.take k ++ [l.getD k 0] := by
  rw [List.take_succ_eq_append_getElem h, getD_elem _ _ h]

theorem wv_take_succ (l : List Nat) (k : Nat) (h : k < l.length) : wv (l.take (k + 1)) = wv (l.take k) + 4294967296 ^ k * l.getD k 0 := by
  rw [take_succ_getD l k h, wv_snoc, List.length_take, Nat.min_eq_left (by omega)]

theorem wv_take_succ' (l : List Nat) (k : Nat) : wv (l.take (k + 1)) = wv (l.take k) + 4294967296 ^ k * l.getD k 0 := by
  by_cases h : k < l.length
  · exact wv_take_succ l k h
  · rw [List.take_of_length_le (by omega), List.take_of_length_le (by omega), List.getD_eq_getElem?_getD, List.getElem?_eq_none (by omega)]
    simp

theorem take_set_succ (l : List Nat) (k x : Nat) (h : k < l.length) : (l.set k x).take (k + 1) = l.take k ++ [x] := by
  rw [List.set_eq_take_append_cons_drop, if_pos h, List.take_append, List.take_of_length_le (by rw [List.length_take]; omega), List.length_take, Nat.min_eq_left (by omega)]
  simp

theorem wok_set {l : List Nat} (h : wok l) (k : Nat) {x : Nat} (hx : x < 4294967296) : wok (l.set k x) := by
  intro y hy
  rcases List.mem_or_eq_of_mem_set hy with h1 | h1
  · exact h y h1
  · omega

theorem drop_getD (l : List Nat) (k : Nat) (h : k < l.length) : l.drop k = l.getD k 0 :: l.drop (k + 1) := by
  rw [List.drop_eq_getElem_cons h, getD_elem _ _ h]

/-- What lies behind place k is noughts: the value is that of the first k words. -/
theorem wv_take_of_zero (l : List Nat) (k : Nat) (hk : k ≤ l.length) (h : ∀ i, k ≤ i → i < l.length → l.getD i 0 = 0) : wv (l.take k) = wv l := by
  obtain ⟨d, hd⟩ : ∃ d, d = l.length - k := ⟨_, rfl⟩
  induction d generalizing k with
  | zero => rw [List.take_of_length_le (by omega)]
  | succ d ih =>
    have hlt : k < l.length := by omega
    have := ih (k + 1) (by omega) (fun i hi hi2 => h i (by omega) hi2) (by omega)
    rw [wv_take_succ l k hlt, h k (Nat.le_refl _) hlt] at this
    simpa using this

theorem tight_take (l : List Nat) (k : Nat) (hk : k ≤ l.length) (h : ∀ j, k = j + 1 → l.getD j 0 ≠ 0) : tight (l.take k) := by
  intro n hn
  rw [List.length_take, Nat.min_eq_left hk] at hn
  have := h n hn
  rw [List.getD_eq_getElem?_getD, List.getElem?_take, if_pos (by omega), ← List.getD_eq_getElem?_getD]
  exact this

theorem pow32_pos (n : Nat) : 0 < 4294967296 ^ n := Nat.pow_pos (by decide)

/-- A tight list of n + 1 words is at least 2^(32 n). -/
theorem wv_ge {l : List Nat} {n : Nat} (ht : tight l) (hl : l.length = n + 1) : 4294967296 ^ n ≤ wv l := by
  have h1 : l = l.take n ++ [l.getD n 0] := by
    rw [← take_succ_getD l n (by omega), List.take_of_length_le (by omega)]
  have h2 := ht n hl
  rw [h1, wv_snoc, List.length_take, Nat.min_eq_left (by omega)]
  have h3 : 1 ≤ l.getD n 0 := by omega
  have := Nat.mul_le_mul_left (4294967296 ^ n) h3
  omega

theorem len_le_of_lt {l : List Nat} (ht : tight l) {n : Nat} (h : wv l < 4294967296 ^ n) : l.length ≤ n := by
  by_cases hc : l.length ≤ n
  · exact hc
  · exfalso
    obtain ⟨m, hm⟩ : ∃ m, l.length = m + 1 := ⟨l.length - 1, by omega⟩
    have h1 := wv_ge ht hm
    have h2 : 4294967296 ^ n ≤ 4294967296 ^ m := Nat.pow_le_pow_right (by decide) (by omega)
    omega

theorem wv_zero_iff {l : List Nat} (ht : tight l) : wv l = 0 ↔ l = [] := by
  constructor
  · intro h
    have := len_le_of_lt ht (n := 0) (by rw [h]; decide)
    exact List.length_eq_zero_iff.1 (by omega)
  · rintro rfl; rfl

/-- Fewer words: a smaller number. -/
theorem wv_lt_of_len {a b : List Nat} (ha : wok a) (hb : tight b) (h : a.length < b.length) : wv a < wv b := by
  obtain ⟨m, hm⟩ : ∃ m, b.length = m + 1 := ⟨b.length - 1, by omega⟩
  have h1 := wv_ge hb hm
  have h2 := wv_lt ha
  have h3 : 4294967296 ^ a.length ≤ 4294967296 ^ m := Nat.pow_le_pow_right (by decide) (by omega)
  omega

/-- The highest words that part decide. -/
theorem wv_lt_of_top {a b : List Nat} (ha : wok a) {k : Nat} (hka : k < a.length) (hl : a.length = b.length)
    (heq : ∀ i, k < i → i < a.length → a.getD i 0 = b.getD i 0) (h : a.getD k 0 < b.getD k 0) : wv a < wv b := by
  have e1 : ∀ l : List Nat, k < l.length → wv l = wv (l.take k) + 4294967296 ^ k * (l.getD k 0 + 4294967296 * wv (l.drop (k + 1))) := by
    intro l hl
    conv => lhs; rw [← List.take_append_drop k l]
    rw [wv_append, List.length_take, Nat.min_eq_left (by omega), drop_getD l k hl, wv]
  have e2 : a.drop (k + 1) = b.drop (k + 1) := by
    apply List.ext_getElem?
    intro i
    rw [List.getElem?_drop, List.getElem?_drop]
    by_cases hi : k + 1 + i < a.length
    · have := heq (k + 1 + i) (by omega) hi
      rw [getD_elem _ _ hi, getD_elem _ _ (by omega)] at this
      rw [List.getElem?_eq_getElem hi, List.getElem?_eq_getElem (by omega), this]
    · rw [List.getElem?_eq_none (by omega), List.getElem?_eq_none (by omega)]
  rw [e1 a hka, e1 b (by omega), e2]
  have h3 := wv_lt (wok_take ha k)
  rw [List.length_take, Nat.min_eq_left (by omega)] at h3
  have h4 : (a.getD k 0 + 4294967296 * wv (b.drop (k + 1))) + 1 ≤ b.getD k 0 + 4294967296 * wv (b.drop (k + 1)) := by omega
  have h5 := Nat.mul_le_mul_left (4294967296 ^ k) h4
  rw [Nat.mul_add, Nat.mul_one] at h5
  omega

theorem wv_eq_of_all {a b : List Nat} (hl : a.length = b.length) (heq : ∀ i, i < a.length → a.getD i 0 = b.getD i 0) : a = b := by
  apply List.ext_getElem hl
  intro i h1 h2
  have := heq i h1
  rwa [getD_elem _ _ h1, getD_elem _ _ h2] at this

theorem wv_set {l : List Nat} {k : Nat} (h : k < l.length) (x : Nat) : wv (l.set k x) + 4294967296 ^ k * l.getD k 0 = wv l + 4294967296 ^ k * x := by
  have e : ∀ y, wv (l.take k ++ y :: l.drop (k + 1)) = wv (l.take k) + 4294967296 ^ k * y + 4294967296 ^ k * (4294967296 * wv (l.drop (k + 1))) := by
    intro y
    rw [wv_append, List.length_take, Nat.min_eq_left (by omega), wv, Nat.mul_add]; omega
  rw [List.set_eq_take_append_cons_drop, if_pos h, e x]
  have h2 : wv l = wv (l.take k ++ l.getD k 0 :: l.drop (k + 1)) := by rw [← drop_getD l k h, List.take_append_drop]
  rw [h2, e]; omega
end Go.Proofs.YthoiikkjjaldnaaGreatDoor

/- What a slice of 32-bit words in memory reads as. -/

namespace Go.Proofs.YthoiikkjjaldnaaGreatDoor
set_option linter.unusedVariables false
set_option linter.unusedSimpArgs false
set_option maxRecDepth 100000
open Go.RowKit

/-- A fact laid aside: the walk's simp does not look behind the name. -/
theorem hid {p : Prop} (h : p) : Hid p := h

def W32 (ws : List Nat) : List Value := ws.map (fun (n : Nat) => Value.int .u32 (n : Int))

/-- A slice at 'ao' of n words (room for cap) reads as ws, in world w. -/
structure Rd (w : World) (ao : Option Addr) (n cap : Nat) (ws : List Nat) : Prop where
  len : ws.length = n
  room : n ≤ cap
  big : cap ≤ maxLen
  ok : wok ws
  at_ : ao = none → n = 0 ∧ cap = 0
  cells : ∀ a, ao = some a → a.spot = none ∧ ∃ cur fz, w.heap[a.block]? = some (.cells cur 172 fz) ∧ ∀ i, i < n → cur[a.off + i]? = some (.int .u32 (ws.getD i 0 : Nat))

theorem Rd.lim {w : World} {ao : Option Addr} {n cap : Nat} {ws : List Nat} (h : Rd w ao n cap ws) : n ≤ 9223372036854775807 ∧ cap ≤ 9223372036854775807 := by
  have h1 := h.room
  have h2 := h.big
  unfold maxLen at h2
  omega

theorem Rd.nil (w : World) : Rd w none 0 0 [] := ⟨rfl, Nat.le_refl _, by unfold maxLen; omega, wok_nil, fun _ => ⟨rfl, rfl⟩, fun a h => by cases h⟩

theorem Rd.addr {w : World} {ao : Option Addr} {n cap : Nat} {ws : List Nat} (h : Rd w ao n cap ws) (hn : 0 < n) :
    ∃ g off, ao = some ⟨g, off, none⟩ := by
  cases ao with
  | none => have := h.at_ rfl; omega
  | some a =>
    obtain ⟨b, o, s⟩ := a
    have := (h.cells _ rfl).1
    simp only at this
    subst this
    exact ⟨b, o, rfl⟩

theorem Rd.cell {w : World} {g off n cap : Nat} {ws : List Nat} (h : Rd w (some ⟨g, off, none⟩) n cap ws) (i : Nat) (hi : i < n) :
    w.cell? ⟨g, off + i, none⟩ = some (.int .u32 (ws.getD i 0 : Nat)) := by
  obtain ⟨_, cur, fz, hh, hc⟩ := h.cells _ rfl
  have := hc i hi
  simp only [World.cell?, hh, this]
  rfl

theorem Rd.lt {w : World} {ao : Option Addr} {n cap : Nat} {ws : List Nat} (h : Rd w ao n cap ws) : ∀ a, ao = some a → a.block < w.heap.size := by
  intro a ha
  obtain ⟨_, cur, fz, hh, _⟩ := h.cells a ha
  by_cases hc : a.block < w.heap.size
  · exact hc
  · rw [Array.getElem?_eq_none (by omega)] at hh; cases hh

theorem Rd.of_block {w w' : World} {ao : Option Addr} {n cap : Nat} {ws : List Nat} (h : Rd w ao n cap ws)
    (hk : ∀ a, ao = some a → w'.heap[a.block]? = w.heap[a.block]?) : Rd w' ao n cap ws :=
  ⟨h.len, h.room, h.big, h.ok, h.at_, fun a ha => by
    obtain ⟨h1, cur, fz, hh, hc⟩ := h.cells a ha
    exact ⟨h1, cur, fz, by rw [hk a ha]; exact hh, hc⟩⟩

theorem Rd.below {w w' : World} {ao : Option Addr} {n cap : Nat} {ws : List Nat} (h : Rd w ao n cap ws) {B : Nat} (hb : Below B w w')
    (hB : w.heap.size ≤ B) : Rd w' ao n cap ws :=
  h.of_block fun a ha => hb.block _ (by have := h.lt a ha; omega)

theorem Rd.take {w : World} {ao : Option Addr} {n cap : Nat} {ws : List Nat} (h : Rd w ao n cap ws) (k : Nat) (hk : k ≤ n) : Rd w ao k cap (ws.take k) :=
  ⟨by rw [List.length_take, h.len]; omega, by have := h.room; omega, h.big, wok_take h.ok k, fun ha => by have := h.at_ ha; omega,
   fun a ha => by
    obtain ⟨h1, cur, fz, hh, hc⟩ := h.cells a ha
    refine ⟨h1, cur, fz, hh, fun i hi => ?_⟩
    rw [hc i (by omega)]
    have : (ws.take k).getD i 0 = ws.getD i 0 := by
      rw [List.getD_eq_getElem?_getD, List.getElem?_take, if_pos hi, ← List.getD_eq_getElem?_getD]
    rw [this]⟩

/-- What a call owns reads. -/
theorem Rd.owned {w : World} {base : Nat} {v : Value} {n : Nat} {ws : List Nat} (h : w.ownsRow base 172 1 v n (W32 ws)) (ok : wok ws) :
    ∃ ao cap, v = .slice ao n cap ∧ Rd w ao n cap ws ∧ (∀ a, ao = some a → base ≤ a.block ∧ a.off = 0 ∧ w.frozen? a = false) := by
  obtain ⟨hl, h2⟩ := h
  have hl' : ws.length = n := by simpa [W32] using hl
  rcases h2 with ⟨rfl, rfl⟩ | ⟨g, cap, cur, rfl, hg, hh, hnc, hcm, hcs, htake⟩
  · obtain rfl : ws = [] := List.length_eq_zero_iff.1 hl'
    exact ⟨none, 0, rfl, Rd.nil w, fun a ha => by cases ha⟩
  · refine ⟨some ⟨g, 0, none⟩, cap, rfl, ⟨hl', hnc, hcm, ok, (fun ha => by cases ha), fun a ha => ?_⟩, fun a ha => ?_⟩
    · obtain rfl := Option.some.inj ha
      refine ⟨rfl, cur, (0, 0), hh, fun i hi => ?_⟩
      have h3 : (W32 ws)[i]? = some (.int .u32 (ws.getD i 0 : Nat)) := by
        simp only [W32, List.getElem?_map]
        rw [List.getElem?_eq_getElem (by omega), getD_elem _ _ (by omega)]; rfl
      rw [← htake, List.getElem?_take, if_pos (by omega)] at h3
      simpa using h3
    · obtain rfl := Option.some.inj ha
      exact ⟨hg, rfl, by simp [World.frozen?, hh]⟩

/-- A slice value that reads as the number n: its words tight. -/
def Nm (w : World) (v : Value) (n : Nat) : Prop := ∃ ao len cap ws, v = .slice ao len cap ∧ Rd w ao len cap ws ∧ tight ws ∧ wv ws = n

theorem Nm.below {w w' : World} {v : Value} {n : Nat} (h : Nm w v n) {B : Nat} (hb : Below B w w') (hB : w.heap.size ≤ B) : Nm w' v n := by
  obtain ⟨ao, len, cap, ws, rfl, hr, ht, hn⟩ := h
  exact ⟨ao, len, cap, ws, rfl, hr.below hb hB, ht, hn⟩

theorem Nm.nil (w : World) : Nm w (.slice none 0 0) 0 := ⟨none, 0, 0, [], rfl, Rd.nil w, tight_nil, rfl⟩
end Go.Proofs.YthoiikkjjaldnaaGreatDoor

/- The walks of both sums of bytes. -/
namespace Go.Proofs.YthoiikkjjaldnaaGreatDoor
set_option linter.unusedVariables false
set_option linter.unusedSimpArgs false
set_option maxRecDepth 100000
open Go.RowKit

def sumY (xs : List Int) : Nat → Int
  | 0 => 90
  | n + 1 => sumY xs n + xs.getD n 0
def Byts (xs : List Int) : Prop := ∀ i, 0 ≤ xs.getD i 0 ∧ xs.getD i 0 ≤ 255
theorem sumY_range {xs : List Int} (h : Byts xs) (n : Nat) : 0 ≤ sumY xs n ∧ sumY xs n ≤ 90 + 255 * (n : Int) := by
  induction n with
  | zero => simp [sumY]
  | succ n ih =>
    have := h n
    simp only [sumY]
    push_cast
    omega
def chk (xs : List Int) : Int := sumY xs xs.length % 256
set_option maxHeartbeats 2000000 in
theorem packSum_any (A : Option Addr) (c n : Nat) (xs : List Int) (w : World) (hr : Rb w w.heap.size A xs) (hn : xs.length = n) (hl : n ≤ 1000) (hx : Byts xs) :
    Calls Tryz.prog 62 #[.slice A n c] w fun e w' => e = .returned (.int .u8 (chk xs)) ∧ w = w' := by
  have HC := hid (show chk xs = sumY xs n % 256 from by unfold chk; rw [hn])
  have HR := hid hr
  have HN := hid hn
  clear hr hn
  go_enter Tryz.func62, Tryz.ntmps62
  go_wp2
  go_loop [3, 8] (fun sv iv => ∃ k : Nat, k ≤ n ∧ iv = .int .i64 k ∧ sv = .int .i64 (sumY xs k)) (fun _ iv => n - (intOf iv).toNat)
  case atStart => exact ⟨0, by omega, rfl, rfl⟩
  case round =>
    obtain ⟨k, hk, rfl, rfl⟩ := hrel
    have sr := sumY_range hx k
    by_cases hlt : k < n
    · obtain ⟨ad, rfl, _, c0⟩ := HR.out.at_ (k := k) (by rw [HN.out]; exact hlt)
      have hb := hx k
      have ST := hid (show sumY xs (k + 1) = sumY xs k + xs.getD k 0 from rfl)
      generalize xs.getD k 0 = x at *
      generalize sumY xs k = s at *
      have k0 : (0 : Int) ≤ k := by omega
      have kn : (k : Int) < n := by omega
      have hw1 : IntKind.i64.wrap x = x := by rw [IntKind.wrap_i64]; omega
      have hw2 : IntKind.i64.wrap (s + x) = s + x := by rw [IntKind.wrap_i64]; omega
      go_wp2
      refine ⟨⟨k + 1, by omega, by go_num, by rw [ST.out]⟩, ?_⟩
      simp [intOf] <;> omega
    · obtain rfl : k = n := by omega
      generalize sumY xs k = s at *
      have hw : IntKind.u8.wrap s = s % 256 := IntKind.wrap_u8 s
      go_wp2
      go_ret
      exact ⟨by rw [HC.out]; rfl, rfl⟩
set_option maxHeartbeats 2000000 in
theorem refCheck_any (A : Option Addr) (c n : Nat) (xs : List Int) (w : World) (hr : Rb w w.heap.size A xs) (hn : xs.length = n) (hl : n ≤ 1000) (hx : Byts xs) :
    Calls Tryz.prog 35 #[.slice A n c] w fun e w' => e = .returned (.int .u8 (chk xs)) ∧ w = w' := by
  have HC := hid (show chk xs = sumY xs n % 256 from by unfold chk; rw [hn])
  have HR := hid hr
  have HN := hid hn
  clear hr hn
  go_enter Tryz.func35, Tryz.ntmps35
  go_wp2
  go_loop [3, 8] (fun sv iv => ∃ k : Nat, k ≤ n ∧ iv = .int .i64 k ∧ sv = .int .i64 (sumY xs k)) (fun _ iv => n - (intOf iv).toNat)
  case atStart => exact ⟨0, by omega, rfl, rfl⟩
  case round =>
    obtain ⟨k, hk, rfl, rfl⟩ := hrel
    have sr := sumY_range hx k
    by_cases hlt : k < n
    · obtain ⟨ad, rfl, _, c0⟩ := HR.out.at_ (k := k) (by rw [HN.out]; exact hlt)
      have hb := hx k
      have ST := hid (show sumY xs (k + 1) = sumY xs k + xs.getD k 0 from rfl)
      generalize xs.getD k 0 = x at *
      generalize sumY xs k = s at *
      have k0 : (0 : Int) ≤ k := by omega
      have kn : (k : Int) < n := by omega
      have hw1 : IntKind.i64.wrap x = x := by rw [IntKind.wrap_i64]; omega
      have hw2 : IntKind.i64.wrap (s + x) = s + x := by rw [IntKind.wrap_i64]; omega
      go_wp2
      refine ⟨⟨k + 1, by omega, by go_num, by rw [ST.out]⟩, ?_⟩
      simp [intOf] <;> omega
    · obtain rfl : k = n := by omega
      generalize sumY xs k = s at *
      have hw : IntKind.u8.wrap (s % 256) = s % 256 := by rw [IntKind.wrap_u8]; omega
      have hm : s.tmod 256 = s % 256 := Int.tmod_eq_emod_of_nonneg sr.1
      go_wp2
      go_ret
      exact ⟨by rw [HC.out]; rfl, rfl⟩
end Go.Proofs.YthoiikkjjaldnaaGreatDoor

/- Bytes as an argument. -/
namespace Go.Proofs.YthoiikkjjaldnaaGreatDoor
set_option linter.unusedVariables false
set_option linter.unusedSimpArgs false
set_option maxRecDepth 100000
open Go.RowKit Go.ChangeShapes Go.WideShapes

theorem trod_bytes_form {H : Type} {enc : TypeId × Value → H} {P : Program} {w : World} {t e : TypeId} {v : Value} {d : DataW H} {ps : List MemPlace} (ht : P.underlying t = some (.slice e)) (he : P.underlying e = some (.int .u8)) (hc : P.cellsOf e = 1) (hb : P.bytesOf e = 1)
    (h : DataW.Trod enc P w 0 (fun _ => true) true t v d ps) (hsz : ∀ x ∈ d.weights P t, x ≤ reachBytes) (hv : ∃ A n c, v = .slice A n c) :
    ∃ A c xs, v = .slice A xs.length c ∧ Rb w w.heap.size A xs ∧ Byts xs ∧ xs.length ≤ c ∧ c ≤ 140737488351232 := by
  obtain ⟨A, n, c, rfl⟩ := hv
  obtain ⟨fuel, hf⟩ := h
  have hf' : DataW.trod enc P w 0 (fun _ => true) true fuel t [.slice A n c] = some (d, ps) := by simpa [Value.cells] using hf
  obtain ⟨xs, hl, h1, h2, h3, h4⟩ := slice_reads ht he hc hf' hsz
  rw [hb] at h2
  subst hl
  refine ⟨A, c, xs, rfl, h3, fun i => ?_, h1, by omega⟩
  rw [List.getD_eq_getElem?_getD]
  cases hi : xs[i]? with
  | none => simp
  | some x =>
    have := h4 x (List.mem_of_getElem? hi)
    have h5 := this.1
    have h6 := this.2
    simp [IntKind.min, IntKind.max, IntKind.signed, IntKind.bits] at h5 h6
    simp
    omega
end Go.Proofs.YthoiikkjjaldnaaGreatDoor

/- A whole array of numbers out of a block, into a block, and one number out of an array. -/
namespace Go.Proofs.YthoiikkjjaldnaaGreatDoor
set_option linter.unusedVariables false
set_option linter.unusedSimpArgs false
set_option maxRecDepth 100000
open Go.RowKit

theorem agi_one (xs : List Int) : (agi xs).all (·.oneCell') = true := by
  rw [Array.all_eq_true_iff_forall_mem]
  intro v hv
  exact ints_one xs v (by simpa [agi] using hv)

section
variable {w : World} {g : Nat} {t ty : TypeId} {xs ys : List Int} {d : TypeDesc} {n : Nat}
theorem IB.load (h : IB w g t xs) (hu : Tryz.prog.underlying ty = some d) (hd : isAggD d = true) (hi : (Tryz.prog.info? ty).map (·.size) = some n) (hl : xs.length = n) :
    (Instr.loadAt ty (.pointer (some ⟨g, 0, none⟩))).run Tryz.prog w = .ok (.agg (agi xs)) w := by
  simp only [Instr.loadAt, Instr.sureAddr, Sem.run_bind, Sem.run_pure, Result.andThen]
  exact run_loadVar_row w g t ty (agi xs) (0, 0) d h hu (by cases d <;> first | rfl | (simp [isAggD] at hd)) (by rw [hi, agi_size, hl])
theorem IB.store (h : IB w g t xs) (hi : (Tryz.prog.info? ty).map (·.size) = some n) (hl : xs.length = n) (hl2 : ys.length = n) :
    (Instr.storeAt ty (.pointer (some ⟨g, 0, none⟩)) (.agg (agi ys))).run Tryz.prog w = .ok () (w.setRow g (agi ys)) := by
  simp only [Instr.storeAt, Instr.sureAddr, Sem.run_bind, Sem.run_pure, Result.andThen]
  exact run_storeVar_row w g t ty (agi xs) (agi ys) h (by rw [hi, agi_size, hl2]) (by rw [agi_size, agi_size, hl, hl2]) (agi_one ys)
theorem IB.setRow (h : IB w g t xs) (ys : List Int) : IB (w.setRow g (agi ys)) g t ys := setRow_heap w g _ _ t _ h
theorem Blk.rowFar {k : Nat} {cs c2 : Array Value} (h : Blk w k t cs) (hne : k ≠ g) : Blk (w.setRow g c2) k t cs := (setRow_other w g k c2 hne).trans h
theorem below_setRow {B : Nat} {a : World} (h : Below B a w) (hg : B ≤ g) (cs : Array Value) : Below B a (w.setRow g cs) :=
  ⟨h.os, h.tape, h.output, by simpa using h.size, fun k hk => (setRow_other w g k cs (by omega)).trans (h.block k hk)⟩
theorem rs_cell {A : Option Addr} {c : Nat} : (Value.slice A 0 c) = .slice A 0 c := rfl
end

theorem IB.cellsFrom {w : World} {g : Nat} {t : TypeId} {xs : List Int} {n : Nat} (h : IB w g t xs) (hl : xs.length = n) :
    (loadCellsFrom ⟨g, 0, none⟩ 0 n #[]).run Tryz.prog w = .ok (agi xs) w := by
  have hn : (agi xs).size = n := by rw [agi_size, hl]
  subst hn
  have := run_loadCells_list (P := Tryz.prog) w ⟨g, 0, none⟩ (agi xs).toList (fun j v hv => by
    have hadd : (⟨g, 0, none⟩ : Addr).add j = ⟨g, j, none⟩ := by unfold Addr.add; split <;> simp_all
    rw [hadd, cell_of_row _ _ j (agi xs) t (0, 0) h]
    simpa using hv)
  simpa [loadCells] using this

/-- The answer of a function whose first result lies in a block. -/
theorem results_row2 {fn : Func} {p q : Tmp} {ty : TypeId} (h : fn.results = #[.cell p ty, .tmp q]) (tmps : Array Value) (w : World) (g : Nat) (t : TypeId) (xs : List Int) (d : TypeDesc) (n : Nat)
    (hp : tmps.getD p undef = .pointer (some ⟨g, 0, none⟩)) (hg : IB w g t xs) (hu : Tryz.prog.underlying ty = some d) (hd : isAggD d = true) (hi : (Tryz.prog.info? ty).map (·.size) = some n) (hl : xs.length = n) :
    (results fn tmps).run Tryz.prog w = .ok (.tuple #[.agg (agi xs), tmps.getD q undef]) w := by
  have hp' : tmps[p]?.getD undef = .pointer (some ⟨g, 0, none⟩) := by simpa using hp
  have hr := run_loadVar_row (P := Tryz.prog) w g t ty (agi xs) (0, 0) d hg hu (by cases d <;> first | rfl | (simp [isAggD] at hd)) (by rw [hi, agi_size, hl])
  simp [results, h, hp', asAddr, hr]
theorem results_row3 {fn : Func} {p q r : Tmp} {ty : TypeId} (h : fn.results = #[.cell p ty, .tmp q, .tmp r]) (tmps : Array Value) (w : World) (g : Nat) (t : TypeId) (xs : List Int) (d : TypeDesc) (n : Nat)
    (hp : tmps.getD p undef = .pointer (some ⟨g, 0, none⟩)) (hg : IB w g t xs) (hu : Tryz.prog.underlying ty = some d) (hd : isAggD d = true) (hi : (Tryz.prog.info? ty).map (·.size) = some n) (hl : xs.length = n) :
    (results fn tmps).run Tryz.prog w = .ok (.tuple #[.agg (agi xs), tmps.getD q undef, tmps.getD r undef]) w := by
  have hp' : tmps[p]?.getD undef = .pointer (some ⟨g, 0, none⟩) := by simpa using hp
  have hr := run_loadVar_row (P := Tryz.prog) w g t ty (agi xs) (0, 0) d hg hu (by cases d <;> first | rfl | (simp [isAggD] at hd)) (by rw [hi, agi_size, hl])
  simp [results, h, hp', asAddr, hr]

/-- The whole array into a block, out of a block, as the walk meets them. -/
theorem wpList_storeI {ops : Array Oper} {rest : List Oper} {o : Oper} {a : Act} {w : World} {Q : Exit → Act → World → Prop} (hgd : o.guard = none) (ty : TypeId) (x y : Operand) (ho : o.op = .store ty x y)
    (g : Nat) (t : TypeId) (xs ys : List Int) (n : Nat) (hx : a.eval x = .pointer (some ⟨g, 0, none⟩)) (hy : a.eval y = .agg (agi ys)) (h : IB w g t xs)
    (hi : (Tryz.prog.info? ty).map (·.size) = some n) (hl : xs.length = n) (hl2 : ys.length = n)
    (k : wpList Tryz.prog ops Q rest (a.put o.dst undef) (w.setRow g (agi ys))) : wpList Tryz.prog ops Q (o :: rest) a w :=
  wpList_store_row hgd ty x y ho g (agi ys) hx hy t (agi xs) h (by rw [hi, agi_size, hl2]) (by rw [agi_size, agi_size, hl, hl2]) (agi_one ys) k
theorem wpList_loadI {ops : Array Oper} {rest : List Oper} {o : Oper} {a : Act} {w : World} {Q : Exit → Act → World → Prop} (hw : Region.wanted o (yielded ops a.tmps) = true) (ty : TypeId) (x : Operand) (ho : o.op = .load ty x)
    (g : Nat) (t : TypeId) (xs : List Int) (n : Nat) (d : TypeDesc) (hx : a.eval x = .pointer (some ⟨g, 0, none⟩)) (h : IB w g t xs) (hu : Tryz.prog.underlying ty = some d) (hd : isAggD d = true)
    (hi : (Tryz.prog.info? ty).map (·.size) = some n) (hl : xs.length = n)
    (k : wpList Tryz.prog ops Q rest (a.put o.dst (.agg (agi xs))) w) : wpList Tryz.prog ops Q (o :: rest) a w :=
  Go.BigFrame.wpList_want hw fun K hK => wp_load_row ty x ho g hx t (agi xs) (0, 0) d h hu (by cases d <;> first | rfl | (simp [isAggD] at hd)) (by rw [hi, agi_size, hl]) (hK _ _ k)

theorem run_index_agi {t : TypeId} {n : Nat} (ht : Tryz.prog.underlying t = some (.array n 3)) (xs : List Int) (hl : xs.length = n) (k : Nat) (hk : k < n) (w : World) :
    (Instr.index t (.agg (agi xs)) (.int .i64 (k : Nat))).run Tryz.prog w = .ok (.int .i64 (xs.getD k 0)) w := by
  have hs : ∀ w, (sizeOf 3).run Tryz.prog w = .ok 1 w := fun w => by kernel_rfl
  have ha : ∀ w, (isAgg 3).run Tryz.prog w = .ok false w := fun w => by kernel_rfl
  have hg := agi_get xs k (by omega)
  simp [Instr.index, asIntOf, run_underlying ht, hk, part, hs, ha, hg]

/-! A row of the call's own, where an elder block is written. -/
theorem Own.ne_ {w : World} {base c g : Nat} {A : Option Addr} {xs : List Int} (h : Own w base A c xs) (hg : g < base) : ∀ ad, A = some ad → ad.block ≠ g := fun ad e => by
  have := (h.lt ad e).1
  omega
theorem Own.setRow {w : World} {base c g : Nat} {A : Option Addr} {xs : List Int} (h : Own w base A c xs) (hg : g < base) (cs : Array Value) : Own (w.setRow g cs) base A c xs :=
  h.kept (row := some g) ⟨rfl, rfl, rfl, by simp [World.setRow], fun i _ hn => setRow_other w g i cs (by intro e; subst e; exact hn rfl)⟩ (fun ad e h2 => by
    injection h2 with h2
    exact h.ne_ hg ad e h2)
theorem Own.setC {w : World} {base c g : Nat} {A : Option Addr} {xs : List Int} (h : Own w base A c xs) (hg : g < base) (i : Nat) (v : Value) : Own (w.setCell ⟨g, i, none⟩ v) base A c xs :=
  h.kept (row := some g) ⟨rfl, rfl, rfl, by simp [World.setCell], fun j _ hn => Below.heap_setCell _ _ _ j (by simpa using hn)⟩ (fun ad e h2 => by
    injection h2 with h2
    exact h.ne_ hg ad e h2)
end Go.Proofs.YthoiikkjjaldnaaGreatDoor

/- Package-level tables of numbers: what the row's list says of them. -/
namespace Go.Proofs.YthoiikkjjaldnaaGreatDoor
set_option linter.unusedVariables false
set_option linter.unusedSimpArgs false
set_option maxRecDepth 100000
open Go.RowKit Go.ChangeShapes

def rootsL : List Int := [444758425, 203159592, 97181937, 47538611, 23511884, 11692281, 5830311, 2911209, 1454619, 727063, 363470, 181719, 90856, 45427, 22713]
def gainsL : List Int := [0, 3277, 6554, 9830, 12452, 14746, 16384, 18022]
def widthL : List Int := [6, 6, 5, 5, 4, 4, 3, 3]

/-- Block g is an array of these numbers. -/
def TabA (w : World) (g : Nat) (zs : List Int) : Prop := ∃ t fr, w.heap[g]? = some (.cells (agi zs) t fr)
/-- Block g is a slice of these numbers. -/
def TabS (w : World) (g : Nat) (zs : List Int) : Prop := ∃ A c, g < w.heap.size ∧ w.cell? ⟨g, 0, none⟩ = some (.slice A zs.length c) ∧ Rs w w.heap.size A zs ∧ zs.length ≤ c
section
variable {w w' : World} {g : Nat} {zs : List Int}
theorem TabA.lt (h : TabA w g zs) : g < w.heap.size := by
  obtain ⟨t, fr, h⟩ := h
  rcases Nat.lt_or_ge g w.heap.size with hlt | hge
  · exact hlt
  · rw [Array.getElem?_eq_none hge] at h; cases h
theorem TabA.cell (h : TabA w g zs) (i : Nat) (hi : i < zs.length) : w.cell? ⟨g, i, none⟩ = some (.int .i64 (zs.getD i 0)) := by
  obtain ⟨t, fr, h⟩ := h
  exact (cell_of_row w g i _ t fr h).trans (agi_get zs i hi)
theorem TabA.below (h : TabA w g zs) (hb : Below w.heap.size w w') : TabA w' g zs := by
  obtain ⟨t, fr, h1⟩ := h
  exact ⟨t, fr, (hb.block g (TabA.lt ⟨t, fr, h1⟩)).trans h1⟩
theorem TabS.below (h : TabS w g zs) (hb : Below w.heap.size w w') : TabS w' g zs := by
  obtain ⟨A, c, h0, h1, h2, h3⟩ := h
  have := hb.size
  exact ⟨A, c, by omega, (hb.cell (p := ⟨g, 0, none⟩) h0).trans h1, (h2.below hb).more this, h3⟩
theorem TabA.below' {B : Nat} (h : TabA w g zs) (hb : Below B w w') (hB : w.heap.size ≤ B) : TabA w' g zs := h.below (hb.mono hB)
theorem TabS.below' {B : Nat} (h : TabS w g zs) (hb : Below B w w') (hB : w.heap.size ≤ B) : TabS w' g zs := h.below (hb.mono hB)
/-- A cell of the slice. -/
theorem TabS.form (h : TabS w g zs) : ∃ A c, w.cell? ⟨g, 0, none⟩ = some (.slice A zs.length c) ∧ zs.length ≤ c ∧ ∀ k, k < zs.length → ∃ ad, A = some ad ∧ w.cell? (ad.add k) = some (.int .i64 (zs.getD k 0)) := by
  obtain ⟨A, c, _, h1, h2, h3⟩ := h
  refine ⟨A, c, h1, h3, fun k hk => ?_⟩
  obtain ⟨ad, e, _, hc⟩ := h2.at_ hk
  exact ⟨ad, e, hc⟩
end

/-- A whole table, loaded. -/
theorem wpList_loadT {ops : Array Oper} {rest : List Oper} {o : Oper} {a : Act} {w : World} {Q : Exit → Act → World → Prop} (hw : Region.wanted o (yielded ops a.tmps) = true) (ty : TypeId) (x : Operand) (ho : o.op = .load ty x)
    (g : Nat) (xs : List Int) (n : Nat) (d : TypeDesc) (hx : a.eval x = .pointer (some ⟨g, 0, none⟩)) (h : TabA w g xs) (hu : Tryz.prog.underlying ty = some d) (hd : isAggD d = true) (hi : (Tryz.prog.info? ty).map (·.size) = some n) (hl : xs.length = n)
    (hk : wpList Tryz.prog ops Q rest (a.put o.dst (.agg (agi xs))) w) : wpList Tryz.prog ops Q (o :: rest) a w := by
  obtain ⟨t, fr, h⟩ := h
  exact Go.BigFrame.wpList_want hw fun K hK => wp_load_row ty x ho g hx t (agi xs) fr d h hu (by cases d <;> first | rfl | (simp [isAggD] at hd)) (by rw [hi, agi_size, hl]) (hK _ _ hk)

/-- The head of the row's list. -/
theorem laid_agg {W : World} {name : String} {zs : List Int} {rest : List (String × DataW Unit)} {ps : List MemPlace} {g : Nat} {t : TypeId} {n : Nat}
    (hg : Tryz.prog.globalNamed name = some g) (hty : (Tryz.prog.globals[g]?).map (·.type) = some t) (ht : Tryz.prog.underlying t = some (.array n 3)) (hce : Tryz.prog.cellsOf 3 = 1) (hct : Tryz.prog.cellsOf t = n)
    (h : DataW.LaidVars Tryz.prog W ((name, Lib.tabData .i64 zs) :: rest) ps) : TabA W g zs ∧ ∃ q, DataW.LaidVars Tryz.prog W rest q := by
  obtain ⟨g', t', cs, fuel, p, q, hg', ht', hvar, hd, hr, _⟩ := h
  obtain rfl := Option.some.inj (hg.symm.trans hg')
  obtain rfl := Option.some.inj (hty.symm.trans ht')
  refine ⟨?_, q, hr⟩
  have hcs := Lib.cells_of_tab ht Tryz.underlying3 hce hct hd
  simp only [World.var?, hg, Option.bind_some] at hvar
  split at hvar
  · rename_i c t fr hb
    cases hvar
    refine ⟨t, fr, ?_⟩
    rw [hb]
    have : cs = agi zs := by
      unfold agi ints
      rw [← hcs]
    rw [this]
  · cases hvar
theorem laid_slice {W : World} {name : String} {zs : List Int} {rest : List (String × DataW Unit)} {ps : List MemPlace} {g : Nat} {t : TypeId}
    (hg : Tryz.prog.globalNamed name = some g) (hty : (Tryz.prog.globals[g]?).map (·.type) = some t) (ht : Tryz.prog.underlying t = some (.slice 3)) (hce : Tryz.prog.cellsOf 3 = 1)
    (h : DataW.LaidVars Tryz.prog W ((name, .slice (zs.map fun z => .lit (.int .i64 z)) []) :: rest) ps) : TabS W g zs ∧ ∃ q, DataW.LaidVars Tryz.prog W rest q := by
  obtain ⟨g', t', cs, fuel, p, q, hg', ht', hvar, hd, hr, _⟩ := h
  obtain rfl := Option.some.inj (hg.symm.trans hg')
  obtain rfl := Option.some.inj (hty.symm.trans ht')
  refine ⟨?_, q, hr⟩
  have hv := World.var?_cell hg hvar 0
  rcases open_ints ht Tryz.underlying3 hce hd with ⟨_, hx⟩ | ⟨a, len, cap, ys, h1, _, hl, hm, hlen, hx, hcell, _⟩
  · simp at hx
  · simp only [Prod.mk.injEq, DataW.slice.injEq] at hx
    obtain ⟨⟨hx1, hx2⟩, _⟩ := hx
    have hz : ys.take len = zs := by
      have h2 : (zs.map fun z => (DataW.lit (.int .i64 z) : DataW Unit)) = (ys.take len).map fun z => DataW.lit (.int .i64 z) := by simpa [lits] using hx1
      exact (List.map_inj_right (fun a b hab => by injection hab with hab; injection hab)).1 h2 |>.symm
    have hle : len ≤ ys.length := by split at hlen <;> omega
    have hzl : zs.length = len := by rw [← hz, List.length_take]; omega
    have hg0 : W.cell? ⟨g, 0, none⟩ = some (.slice (some a) len cap) := by
      rw [hv, Array.eq_one_of_toList h1]; rfl
    refine ⟨some a, cap, World.block_lt_of_cell? W ⟨g, 0, none⟩ hg0, by rw [hzl]; exact hg0, ⟨by simp [ints], fun hn => ⟨a, rfl, ?_, ?_⟩⟩, by omega⟩
    · have := World.block_lt_of_cell? W _ (hcell 0 (by omega))
      rwa [block_of_add] at this
    · intro j u hu
      have hj : j < zs.length := by
        have := (List.getElem?_eq_some_iff.1 hu).1
        simpa [ints] using this
      rw [ints_get _ j hj] at hu
      rw [hcell j (by omega), ← hu, ← hz]
      congr 2
      simp only [List.getD_eq_getElem?_getD, List.getElem?_take]
      rw [if_pos (by omega)]
end Go.Proofs.YthoiikkjjaldnaaGreatDoor

/- The walks of the functions on lists of words. -/
namespace Go.Proofs.YthoiikkjjaldnaaGreatDoor
set_option linter.unusedVariables false
set_option linter.unusedSimpArgs false
set_option maxRecDepth 100000
open Go.RowKit

theorem info32 : (Tryz.prog.info? 172).map (fun i => (i.zero, i.size, i.bytes)) = some (some (.int .u32 0), 1, 4) := by kernel_rfl

/-- What trim answers. -/
def Trims (ao : Option Addr) (n cap : Nat) (ws : List Nat) (e : Ending) : Prop := ∃ k, k ≤ n ∧ e = .returned (.slice ao k cap) ∧ wv (ws.take k) = wv ws ∧ tight (ws.take k)

/-- trim strikes the noughts at the end. -/
theorem trim_any (w : World) (ao : Option Addr) (n cap : Nat) (ws : List Nat) (h : Rd w ao n cap ws) :
    Calls Tryz.prog 151 #[.slice ao n cap] w fun e w' => Trims ao n cap ws e ∧ w = w' := by
  have hlim := h.lim.1
  have hlim2 := h.lim.2
  have hroom := h.room
  have hlen := hid h.len
  go_enter Tryz.func151, Tryz.ntmps151
  go_wp2
  go_loop [3] (fun v => ∃ k : Nat, k ≤ n ∧ v = .int .i64 k ∧ ∀ i, k ≤ i → i < ws.length → ws.getD i 0 = 0) (fun v => (intOf v).toNat)
  case atStart => exact ⟨n, Nat.le_refl _, rfl, fun i h1 h2 => by have := hlen.out; omega⟩
  case round =>
    obtain ⟨k, hk, rfl, hz⟩ := hrel
    by_cases h0 : 0 < k
    · obtain ⟨j, rfl⟩ : ∃ j, k = j + 1 := ⟨k - 1, by omega⟩
      obtain ⟨g, off, rfl⟩ := h.addr (by omega)
      have hc := h.cell j (by omega)
      obtain ⟨x, hx⟩ : ∃ x, x = ws.getD j 0 := ⟨_, rfl⟩
      rw [← hx] at hc
      have HZ := hid hz
      have HX := hid hx
      have H := hid h
      clear hz hx h h0
      by_cases hx0 : x = 0
      · subst hx0
        go_wp2
        go_round
        case rel =>

          refine ⟨j, by omega, rfl, fun i h1 h2 => ?_⟩
          by_cases hij : i = j
          · subst hij; exact HX.out.symm
          · exact HZ.out i (by omega) h2
        case measure => simp [intOf] <;> omega
      · go_wp2
        go_ret
        refine ⟨⟨j + 1, hk, rfl, wv_take_of_zero _ _ (by have := hlen.out; omega) HZ.out, tight_take _ _ (by have := hlen.out; omega) ?_⟩, rfl⟩
        intro i hi
        obtain rfl : j = i := by omega
        rw [← HX.out]; exact hx0
    · obtain rfl : k = 0 := by omega
      have HZ := hid hz
      have H := hid h
      clear hz h h0
      cases ao with
      | none =>
        have h1 := H.out.at_ rfl
        obtain ⟨rfl, rfl⟩ := h1
        go_wp2
        go_ret
        exact ⟨⟨0, Nat.le_refl _, rfl, wv_take_of_zero _ _ (by omega) HZ.out, tight_take _ _ (by omega) (fun i hi => by omega)⟩, rfl⟩
      | some a =>
        go_wp2
        go_ret
        exact ⟨⟨0, hk, rfl, wv_take_of_zero _ _ (by omega) HZ.out, tight_take _ _ (by omega) (fun i hi => by omega)⟩, rfl⟩

/-- twin: the same words in new memory (or none). -/
theorem twin_any (w : World) (ao : Option Addr) (n cap : Nat) (ws : List Nat) (h : Rd w ao n cap ws) (hn : n ≤ 64) :
    Calls Tryz.prog 204 #[.slice ao n cap] w fun e w' => ∃ v, e = .returned v ∧ w'.ownsRow w.heap.size 172 1 v n (W32 ws) ∧ w.grownBy w' none := by
  obtain ⟨i0, hi, hz0, hz1, hz2⟩ := info_parts info32
  cases ao with
  | none =>
    have h1 := h.at_ rfl
    obtain ⟨rfl, rfl⟩ := h1
    obtain rfl : ws = [] := List.length_eq_zero_iff.1 h.len
    have H := hid h
    clear h
    go_enter Tryz.func204, Tryz.ntmps204
    go_wp2_with (at_builtin; refine wpList_append_own_none rfl _ _ 78 rfl w.heap.size 172 i0 1 Tryz.underlying78 hi _ 0 [] rfl (World.ownsRow_nil _ _ _ _) rfl ?_)
    go_ret
    exact ⟨_, rfl, World.ownsRow_nil _ _ _ _, ⟨rfl, rfl, rfl, Nat.le_refl _, fun _ _ _ => rfl⟩⟩
  | some a =>
    have hsp := (h.cells a rfl).1
    obtain ⟨g, off, s⟩ := a
    simp only at hsp
    subst hsp
    have H := hid h
    clear h
    go_enter Tryz.func204, Tryz.ntmps204
    go_wp2_with (at_builtin; refine wpList_append_own _ rfl _ _ 78 rfl w.heap.size 172 i0 (.int .u32 0) 1 4 Tryz.underlying78 hi hz0 hz1 hz2 rfl (by decide) _ 0 [] rfl (World.ownsRow_nil _ _ _ _) ⟨g, off, none⟩ n cap (W32 ws) rfl ?c0 ?c1 ?c2 ?c3 ?c4 ?c5 ?_)
    case c0 => have := H.out.len; simp [W32, this]
    case c1 =>
      intro j u hj
      have hl := H.out.len
      have hlt : j < n := by
        by_cases hc : j < n
        · exact hc
        · rw [List.getElem?_eq_none (by simp [W32]; omega)] at hj; cases hj
      have := H.out.cell j hlt
      simp only [W32, List.getElem?_map, List.getElem?_eq_getElem (show j < ws.length by omega), Option.map_some, Option.some.injEq] at hj
      subst hj
      rw [getD_elem _ _ (by omega)] at this
      rw [← this]
      unfold Addr.add
      split
      · rename_i h0; subst h0; rfl
      · rfl
    case c2 => intro u hu; simp only [W32, List.mem_map] at hu; obtain ⟨x, _, rfl⟩ := hu; rfl
    case c3 => unfold maxLen; omega
    case c4 => omega
    case c5 => exact Nat.le_refl _
    · intro v' w1 hown hg _
      go_wp2
      go_ret
      refine ⟨v', rfl, by simpa using hown, hg⟩
end Go.Proofs.YthoiikkjjaldnaaGreatDoor

/- The walks of add, sub, left, right on lists of words. -/
namespace Go.Proofs.YthoiikkjjaldnaaGreatDoor
set_option linter.unusedVariables false
set_option linter.unusedSimpArgs false
set_option maxRecDepth 100000
open Go.RowKit

/-- What a function answers that makes a number of words: new memory at most, and the number. -/
def GivesNm (w : World) (n : Nat) (e : Ending) (w' : World) : Prop := (∃ v, e = .returned v ∧ Nm w' v n) ∧ Below w.heap.size w w'

theorem trim_own (w : World) (base : Nat) (v : Value) (n : Nat) (ws : List Nat) (h : w.ownsRow base 172 1 v n (W32 ws)) (ok : wok ws) :
    Calls Tryz.prog 151 #[v] w fun e w' => (∃ v', e = .returned v' ∧ Nm w v' (wv ws)) ∧ w = w' := by
  obtain ⟨ao, cap, rfl, hr, _⟩ := Rd.owned h ok
  refine (trim_any w ao n cap ws hr).mono ?_
  rintro e w' ⟨⟨k, hk, rfl, h1, h2⟩, rfl⟩
  exact ⟨⟨_, rfl, ao, k, cap, _, rfl, hr.take k hk, h2, h1⟩, rfl⟩

theorem make32 (n : Nat) : (madeCells (Value.int .u32 0).cells (n * 1)).toList = W32 (List.replicate n 0) := by
  rw [Nat.mul_one]
  show (madeCells #[Value.int .u32 0] n).toList = _
  rw [toList_madeCells_one]
  simp [W32]

theorem W32_set (rs : List Nat) (k x : Nat) : (W32 rs).set k (.int .u32 (x : Nat)) = W32 (rs.set k x) := by
  simp [W32, List.map_set]

structure AddInv (w wr : World) (an : Nat) (ua ub : List Nat) (k c : Nat) (rs : List Nat) : Prop where
  len : rs.length = an + 1
  ok : wok rs
  val : wv (rs.take k) + 4294967296 ^ k * c = wv (ua.take k) + wv (ub.take k)
  own : wr.ownsRow w.heap.size 172 1 (.slice (some ⟨w.heap.size, 0, none⟩) (an + 1) (an + 1)) (an + 1) (W32 rs)
  bel : Below w.heap.size w wr

theorem AddInv.step {w wr : World} {an : Nat} {ua ub : List Nat} {k c : Nat} {rs : List Nat} (h : AddInv w wr an ua ub k c rs) (hk : k < an)
    {x c' xa xb : Nat} (hx : x < 4294967296) (hxa : ua.getD k 0 = xa) (hxb : ub.getD k 0 = xb) (hv : x + 4294967296 * c' = c + xa + xb) :
    AddInv w (wr.setCell ⟨w.heap.size, k, none⟩ (.int .u32 (x : Nat))) an ua ub (k + 1) c' (rs.set k x) := by
  have hl := h.len
  refine ⟨by simpa using h.len, wok_set h.ok k hx, ?_, ?_, h.bel.setCell (Nat.le_refl _) _⟩
  · rw [take_set_succ _ _ _ (by omega), wv_snoc, List.length_take, Nat.min_eq_left (by omega), wv_take_succ', wv_take_succ', hxa, hxb, Nat.pow_succ]
    have h1 := h.val
    have h2 : 4294967296 ^ k * (x + 4294967296 * c') = 4294967296 ^ k * (c + xa + xb) := by rw [hv]
    simp only [Nat.mul_add] at h2
    rw [Nat.mul_assoc]
    omega
  · have := (h.own.stored k (.int .u32 (x : Nat))).1
    rwa [W32_set] at this

theorem AddInv.fin {w wr : World} {an : Nat} {ua ub : List Nat} {c : Nat} {rs : List Nat} (h : AddInv w wr an ua ub an c rs) (hc : c < 4294967296) (h1 : ua.length = an) (h2 : ub.length ≤ an) :
    (wr.setCell ⟨w.heap.size, an, none⟩ (.int .u32 (c : Nat))).ownsRow w.heap.size 172 1 (.slice (some ⟨w.heap.size, 0, none⟩) (an + 1) (an + 1)) (an + 1) (W32 (rs.set an c))
    ∧ wok (rs.set an c) ∧ wv (rs.set an c) = wv ua + wv ub ∧ Below w.heap.size w (wr.setCell ⟨w.heap.size, an, none⟩ (.int .u32 (c : Nat))) := by
  refine ⟨?_, wok_set h.ok an hc, ?_, h.bel.setCell (Nat.le_refl _) _⟩
  · have := (h.own.stored an (.int .u32 (c : Nat))).1
    rwa [W32_set] at this
  · have e : rs.set an c = (rs.set an c).take (an + 1) := by rw [List.take_of_length_le]; simp [h.len]
    have hv := h.val
    rw [List.take_of_length_le (l := ua) (by omega), List.take_of_length_le (l := ub) (by omega)] at hv
    rw [e, take_set_succ _ _ _ (by rw [h.len]; omega), wv_snoc, List.length_take, Nat.min_eq_left (by rw [h.len]; omega)]
    exact hv

set_option maxHeartbeats 1000000 in
theorem add_ge (w : World) (ao bo : Option Addr) (an ac bn bc : Nat) (ua ub : List Nat) (ha : Rd w ao an ac ua) (hb : Rd w bo bn bc ub) (hn : an ≤ 64) (hm : bn ≤ 64) (hge : bn ≤ an) :
    Calls Tryz.prog 145 #[.slice ao an ac, .slice bo bn bc] w (GivesNm w (wv ua + wv ub)) := by
  obtain ⟨i0, hi, hz0, hz1, hz2⟩ := info_parts info32
  have HA := hid ha
  have HB := hid hb
  clear ha hb
  go_enter Tryz.func145, Tryz.ntmps145
  go_wp2_with (first | (at_make; refine wpList_make_full _ rfl _ _ 78 rfl w.heap.size 172 i0 (.int .u32 0) 1 Tryz.underlying78 hi hz0 hz1 _ _ _ _ (an + 1) rfl rfl (by simp) (by simp) (by rw [hz2]; omega) (by unfold maxLen; omega) (Nat.le_refl _) ?_; intro w1 hown hgrow))
  rw [make32] at hown
  have inv0 : AddInv w w1 an ua ub 0 0 (List.replicate (an + 1) 0) := ⟨by simp, wok_replicate _, by simp [wv], hown, (Below.refl _ _).grown hgrow (Nat.le_refl _) (fun k h => by cases h)⟩
  clear hown hgrow
  go_loopw [6, 7] (fun cv iv wr => ∃ (k c : Nat) (rs : List Nat), k ≤ an ∧ iv = .int .i64 k ∧ cv = .int .u64 c ∧ c ≤ 1 ∧ AddInv w wr an ua ub k c rs) (fun _ iv _ => an - (intOf iv).toNat)
  case atStart => exact ⟨0, 0, _, by omega, rfl, rfl, by omega, inv0⟩
  case round =>
    clear inv0 w1
    obtain ⟨k, c, rs, hk, rfl, rfl, hc1, inv⟩ := hrel
    have hsz := inv.bel.size
    have hcr : ∃ v, wr.cell? ⟨w.heap.size, k, none⟩ = some v := by
      rw [inv.own.cellAt k (by omega)]
      exact ⟨_, List.getElem?_eq_getElem (by simp [W32, inv.len]; omega)⟩
    have hfr := inv.own.frozenAt k
    obtain ⟨v0, hcr⟩ := hcr
    have INV := hid inv
    clear inv
    by_cases hka : k < an
    · obtain ⟨g, off, rfl⟩ := HA.out.addr (by omega)
      have hca := (HA.out.below INV.out.bel (Nat.le_refl _)).cell k hka
      have hra := wok_getD HA.out.ok k
      generalize hxa : ua.getD k 0 = xa at hca hra
      have HXA := hid hxa
      clear hxa
      by_cases hkb : k < bn
      · obtain ⟨g2, off2, rfl⟩ := HB.out.addr (by omega)
        have hcb := (HB.out.below INV.out.bel (Nat.le_refl _)).cell k hkb
        have hrb := wok_getD HB.out.ok k
        generalize hxb : ub.getD k 0 = xb at hcb hrb
        have HXB := hid hxb
        clear hxb
        go_wp2
        go_roundw
        case rel =>
          have e1 : ((c : Int) + xa + xb) % 4294967296 = (((c + xa + xb) % 4294967296 : Nat) : Int) := by omega
          rw [e1]
          exact ⟨k + 1, (c + xa + xb) / 4294967296, _, by omega, by simp, by simp, by omega, INV.out.step hka (by omega) HXA.out HXB.out (by omega)⟩
        case measure => simp [intOf] <;> omega
      · have hxb : ub.getD k 0 = 0 := by
          rw [List.getD_eq_getElem?_getD, List.getElem?_eq_none (by have := HB.out.len; omega)]; rfl
        have HXB := hid hxb
        clear hxb
        go_wp2
        go_roundw
        case rel =>
          have e1 : ((c : Int) + xa) % 4294967296 = (((c + xa) % 4294967296 : Nat) : Int) := by omega
          rw [e1]
          exact ⟨k + 1, (c + xa) / 4294967296, _, by omega, by simp, by simp, by omega, INV.out.step hka (by omega) HXA.out HXB.out (by omega)⟩
        case measure => simp [intOf] <;> omega
    · obtain rfl : k = an := by omega
      have F := INV.out.fin (by omega) HA.out.len (by have := HB.out.len; omega)
      have e1 : (c : Int) % 4294967296 = (c : Int) := by omega
      go_wp2_with (go_at_call 151; refine (trim_own _ w.heap.size _ (k + 1) (rs.set k c) F.1 F.2.1).mono ?_; rintro e w' ⟨⟨v', rfl, hnm⟩, rfl⟩)
      go_ret
      exact ⟨⟨v', rfl, by rw [← F.2.2.1]; exact hnm⟩, F.2.2.2⟩
set_option maxHeartbeats 1000000 in
theorem add_lt (w : World) (ao bo : Option Addr) (an ac bn bc : Nat) (ua ub : List Nat) (ha : Rd w ao an ac ua) (hb : Rd w bo bn bc ub) (hn : an ≤ 64) (hm : bn ≤ 64) (hge : an < bn) :
    Calls Tryz.prog 145 #[.slice ao an ac, .slice bo bn bc] w (GivesNm w (wv ua + wv ub)) := by
  obtain ⟨i0, hi, hz0, hz1, hz2⟩ := info_parts info32
  rw [Nat.add_comm (wv ua)]
  have HA := hid ha
  have HB := hid hb
  clear ha hb
  go_enter Tryz.func145, Tryz.ntmps145
  go_wp2_with (first | (at_make; refine wpList_make_full _ rfl _ _ 78 rfl w.heap.size 172 i0 (.int .u32 0) 1 Tryz.underlying78 hi hz0 hz1 _ _ _ _ (bn + 1) rfl rfl (by simp) (by simp) (by rw [hz2]; omega) (by unfold maxLen; omega) (Nat.le_refl _) ?_; intro w1 hown hgrow))
  rw [make32] at hown
  have inv0 : AddInv w w1 bn ub ua 0 0 (List.replicate (bn + 1) 0) := ⟨by simp, wok_replicate _, by simp [wv], hown, (Below.refl _ _).grown hgrow (Nat.le_refl _) (fun k h => by cases h)⟩
  clear hown hgrow
  go_loopw [6, 7] (fun cv iv wr => ∃ (k c : Nat) (rs : List Nat), k ≤ bn ∧ iv = .int .i64 k ∧ cv = .int .u64 c ∧ c ≤ 1 ∧ AddInv w wr bn ub ua k c rs) (fun _ iv _ => bn - (intOf iv).toNat)
  case atStart => exact ⟨0, 0, _, by omega, rfl, rfl, by omega, inv0⟩
  case round =>
    clear inv0 w1
    obtain ⟨k, c, rs, hk, rfl, rfl, hc1, inv⟩ := hrel
    have hsz := inv.bel.size
    have hcr : ∃ v, wr.cell? ⟨w.heap.size, k, none⟩ = some v := by
      rw [inv.own.cellAt k (by omega)]
      exact ⟨_, List.getElem?_eq_getElem (by simp [W32, inv.len]; omega)⟩
    have hfr := inv.own.frozenAt k
    obtain ⟨v0, hcr⟩ := hcr
    have INV := hid inv
    clear inv
    by_cases hka : k < bn
    · obtain ⟨g, off, rfl⟩ := HB.out.addr (by omega)
      have hca := (HB.out.below INV.out.bel (Nat.le_refl _)).cell k hka
      have hra := wok_getD HB.out.ok k
      generalize hxa : ub.getD k 0 = xa at hca hra
      have HXA := hid hxa
      clear hxa
      by_cases hkb : k < an
      · obtain ⟨g2, off2, rfl⟩ := HA.out.addr (by omega)
        have hcb := (HA.out.below INV.out.bel (Nat.le_refl _)).cell k hkb
        have hrb := wok_getD HA.out.ok k
        generalize hxb : ua.getD k 0 = xb at hcb hrb
        have HXB := hid hxb
        clear hxb
        go_wp2
        go_roundw
        case rel =>
          have e1 : ((c : Int) + xa + xb) % 4294967296 = (((c + xa + xb) % 4294967296 : Nat) : Int) := by omega
          rw [e1]
          exact ⟨k + 1, (c + xa + xb) / 4294967296, _, by omega, by simp, by simp, by omega, INV.out.step hka (by omega) HXA.out HXB.out (by omega)⟩
        case measure => simp [intOf] <;> omega
      · have hxb : ua.getD k 0 = 0 := by
          rw [List.getD_eq_getElem?_getD, List.getElem?_eq_none (by have := HA.out.len; omega)]; rfl
        have HXB := hid hxb
        clear hxb
        go_wp2
        go_roundw
        case rel =>
          have e1 : ((c : Int) + xa) % 4294967296 = (((c + xa) % 4294967296 : Nat) : Int) := by omega
          rw [e1]
          exact ⟨k + 1, (c + xa) / 4294967296, _, by omega, by simp, by simp, by omega, INV.out.step hka (by omega) HXA.out HXB.out (by omega)⟩
        case measure => simp [intOf] <;> omega
    · obtain rfl : k = bn := by omega
      have F := INV.out.fin (by omega) HB.out.len (by have := HA.out.len; omega)
      have e1 : (c : Int) % 4294967296 = (c : Int) := by omega
      go_wp2_with (go_at_call 151; refine (trim_own _ w.heap.size _ (k + 1) (rs.set k c) F.1 F.2.1).mono ?_; rintro e w' ⟨⟨v', rfl, hnm⟩, rfl⟩)
      go_ret
      exact ⟨⟨v', rfl, by rw [← F.2.2.1]; exact hnm⟩, F.2.2.2⟩

/-- A number of at most sixty words. -/
def Sm (n : Nat) : Prop := n < 4294967296 ^ 60

theorem Nm.len {w : World} {v : Value} {n : Nat} (h : Nm w v n) (hs : Sm n) : ∃ ao len cap ws, v = .slice ao len cap ∧ Rd w ao len cap ws ∧ tight ws ∧ wv ws = n ∧ len ≤ 60 := by
  obtain ⟨ao, len, cap, ws, rfl, hr, ht, hn⟩ := h
  exact ⟨ao, len, cap, ws, rfl, hr, ht, hn, by rw [← hr.len]; exact len_le_of_lt ht (by rw [hn]; exact hs)⟩

theorem add_nm (w : World) (va vb : Value) (a b : Nat) (ha : Nm w va a) (hb : Nm w vb b) (sa : Sm a) (sb : Sm b) :
    Calls Tryz.prog 145 #[va, vb] w (GivesNm w (a + b)) := by
  obtain ⟨ao, an, ac, ua, rfl, hra, hta, rfl, hla⟩ := ha.len sa
  obtain ⟨bo, bn, bc, ub, rfl, hrb, htb, rfl, hlb⟩ := hb.len sb
  by_cases h : bn ≤ an
  · exact add_ge w ao bo an ac bn bc ua ub hra hrb (by omega) (by omega) h
  · exact add_lt w ao bo an ac bn bc ua ub hra hrb (by omega) (by omega) (by omega)

end Go.Proofs.YthoiikkjjaldnaaGreatDoor

/- The walks of cmp, words, plain, length on lists of words. -/
namespace Go.Proofs.YthoiikkjjaldnaaGreatDoor
set_option linter.unusedVariables false
set_option linter.unusedSimpArgs false
set_option maxRecDepth 100000
open Go.RowKit

def cmpN (a b : Nat) : Int := if a < b then -1 else if b < a then 1 else 0

theorem cmpN_lt {a b : Nat} (h : a < b) : cmpN a b = -1 := by unfold cmpN; rw [if_pos h]
theorem cmpN_gt {a b : Nat} (h : b < a) : cmpN a b = 1 := by unfold cmpN; rw [if_neg (by omega), if_pos h]
theorem cmpN_eq (a : Nat) : cmpN a a = 0 := by unfold cmpN; rw [if_neg (by omega), if_neg (by omega)]

set_option maxHeartbeats 1000000 in
theorem cmp_any (w : World) (ao bo : Option Addr) (an ac bn bc : Nat) (ua ub : List Nat) (ha : Rd w ao an ac ua) (hb : Rd w bo bn bc ub) (hta : tight ua) (htb : tight ub) (hn : an ≤ 64) (hm : bn ≤ 64) :
    Calls Tryz.prog 152 #[.slice ao an ac, .slice bo bn bc] w fun e w' => e = .returned (.int .i64 (cmpN (wv ua) (wv ub))) ∧ ∃ n, w' = w.drewN n := by
  have HA := hid ha
  have HB := hid hb
  have HTA := hid hta
  have HTB := hid htb
  clear ha hb hta htb
  rcases Nat.lt_trichotomy an bn with hlt | heq | hgt
  · have hv : cmpN (wv ua) (wv ub) = -1 := cmpN_lt (wv_lt_of_len HA.out.ok HTB.out (by rw [HA.out.len, HB.out.len]; exact hlt))
    rw [hv]
    have hne : ((an : Int) == (bn : Int)) = false := by rw [beq_eq_false_iff_ne]; omega
    have hne' : ((an : Int) != (bn : Int)) = true := by rw [bne_iff_ne]; omega
    go_enter Tryz.func152, Tryz.ntmps152
    go_wp2
    go_ret
    exact ⟨rfl, 0, rfl⟩
  · obtain rfl := heq
    go_enter Tryz.func152, Tryz.ntmps152
    go_wp2
    go_loopw [5] (fun iv wr => ∃ k : Nat, k ≤ an ∧ iv = .int .i64 ((k : Int) - 1) ∧ (∀ i, k ≤ i → i < ua.length → ua.getD i 0 = ub.getD i 0) ∧ ∃ n, wr = w.drewN n) (fun iv _ => (intOf iv + 1).toNat)
    case atStart => exact ⟨an, by omega, rfl, fun i h1 h2 => by have := HA.out.len; omega, 0, rfl⟩
    case round =>
      obtain ⟨k, hk, rfl, hz, n, rfl⟩ := hrel
      have HZ := hid hz
      clear hz
      by_cases h0 : 0 < k
      · obtain ⟨j, rfl⟩ : ∃ j, k = j + 1 := ⟨k - 1, by omega⟩
        rw [show (((j + 1 : Nat) : Int) - 1) = (j : Int) from by omega]
        obtain ⟨g, off, rfl⟩ := HA.out.addr (by omega)
        obtain ⟨g2, off2, rfl⟩ := HB.out.addr (by omega)
        have hca := HA.out.cell j (by omega)
        have hcb := HB.out.cell j (by omega)
        generalize hxa : ua.getD j 0 = xa at hca
        generalize hxb : ub.getD j 0 = xb at hcb
        have HXA := hid hxa
        have HXB := hid hxb
        clear hxa hxb
        rcases Nat.lt_trichotomy xa xb with hlt | heq | hgt
        · have hv : cmpN (wv ua) (wv ub) = -1 := cmpN_lt (wv_lt_of_top HA.out.ok (k := j) (by rw [HA.out.len]; omega) (by rw [HA.out.len, HB.out.len]) (fun i h1 h2 => HZ.out i (by omega) h2) (by rw [HXA.out, HXB.out]; exact hlt))
          have HV := hid hv
          clear hv
          have hne : ((xa : Int) != (xb : Int)) = true := by rw [bne_iff_ne]; omega
          go_wp2
          go_quiet (fail)
          go_wp2
          go_quiet (fail)
          go_wp2
          go_ret
          refine ⟨by rw [HV.out]; rfl, ?_⟩; (try simp only [World.drewN_drewN]); exact ⟨_, rfl⟩
        · obtain rfl := heq
          go_wp2
          go_quiet (fail)
          go_wp2
          go_roundw
          case rel =>
            refine ⟨j, by omega, rfl, fun i h1 h2 => ?_, _, rfl⟩
            by_cases hij : i = j
            · rw [hij, HXA.out, HXB.out]
            · exact HZ.out i (by omega) h2
          case measure => simp [intOf] <;> omega
        · have hv : cmpN (wv ua) (wv ub) = 1 := cmpN_gt (wv_lt_of_top HB.out.ok (k := j) (by rw [HB.out.len]; omega) (by rw [HA.out.len, HB.out.len]) (fun i h1 h2 => (HZ.out i (by omega) (by rw [HA.out.len]; rw [HB.out.len] at h2; exact h2)).symm) (by rw [HXA.out, HXB.out]; exact hgt))
          have HV := hid hv
          clear hv
          have hne : ((xa : Int) != (xb : Int)) = true := by rw [bne_iff_ne]; omega
          go_wp2
          go_quiet (fail)
          go_wp2
          go_quiet (fail)
          go_wp2
          go_ret
          refine ⟨by rw [HV.out]; rfl, ?_⟩; (try simp only [World.drewN_drewN]); exact ⟨_, rfl⟩
      · obtain rfl : k = 0 := by omega
        have hv : cmpN (wv ua) (wv ub) = 0 := by
          rw [wv_eq_of_all (by rw [HA.out.len, HB.out.len]) (fun i h1 => HZ.out i (by omega) h1), cmpN_eq]
        have HV := hid hv
        clear hv
        go_wp2
        go_ret
        refine ⟨by rw [HV.out]; rfl, ?_⟩; (try simp only [World.drewN_drewN]); exact ⟨_, rfl⟩
  · have hv : cmpN (wv ua) (wv ub) = 1 := cmpN_gt (wv_lt_of_len HB.out.ok HTA.out (by rw [HA.out.len, HB.out.len]; exact hgt))
    rw [hv]
    have hne : ((an : Int) == (bn : Int)) = false := by rw [beq_eq_false_iff_ne]; omega
    have hne' : ((an : Int) != (bn : Int)) = true := by rw [bne_iff_ne]; omega
    go_enter Tryz.func152, Tryz.ntmps152
    go_wp2
    go_ret
    exact ⟨rfl, 0, rfl⟩

theorem cmp_nm (w : World) (va vb : Value) (a b : Nat) (ha : Nm w va a) (hb : Nm w vb b) (sa : Sm a) (sb : Sm b) :
    Calls Tryz.prog 152 #[va, vb] w fun e w' => e = .returned (.int .i64 (cmpN a b)) ∧ ∃ n, w' = w.drewN n := by
  obtain ⟨ao, an, ac, ua, rfl, hra, hta, rfl, hla⟩ := ha.len sa
  obtain ⟨bo, bn, bc, ub, rfl, hrb, htb, rfl, hlb⟩ := hb.len sb
  exact cmp_any w ao bo an ac bn bc ua ub hra hrb hta htb (by omega) (by omega)
end Go.Proofs.YthoiikkjjaldnaaGreatDoor

/- The walks of words, plain, length. -/
namespace Go.Proofs.YthoiikkjjaldnaaGreatDoor
set_option linter.unusedVariables false
set_option linter.unusedSimpArgs false
set_option maxRecDepth 100000
open Go.RowKit

set_option maxHeartbeats 1000000 in
theorem words_any (w : World) (x : Int) (h0 : 0 ≤ x) (h1 : x ≤ 18446744073709551615) :
    Calls Tryz.prog 146 #[.int .u64 x] w (GivesNm w x.toNat) := by
  obtain ⟨n, rfl⟩ := Int.eq_ofNat_of_zero_le h0
  have hO := World.ownsRow_lit (base := w.heap.size) (e := 172) (size := 1) w #[.int .u32 (((n % 4294967296 : Nat)) : Int), .int .u32 ((n / 4294967296 : Nat) : Int)] 2 (Nat.le_refl _) (by unfold maxLen; omega) rfl
  have hok : wok [n % 4294967296, n / 4294967296] := by
    intro y hy
    simp only [List.mem_cons, List.not_mem_nil, or_false] at hy
    omega
  have hv : wv [n % 4294967296, n / 4294967296] = n := by simp only [wv]; omega
  have H := hid (And.intro hO (And.intro hok hv))
  clear hO hok hv
  go_enter Tryz.func146, Tryz.ntmps146
  go_wp2_with fail
  rw [show ((n : Int) % 4294967296) = ((n % 4294967296 : Nat) : Int) from by omega, show ((n : Int) / 4294967296) = ((n / 4294967296 : Nat) : Int) from by omega]
  refine (trim_own _ w.heap.size _ 2 [n % 4294967296, n / 4294967296] H.out.1 H.out.2.1).mono ?_
  rintro e w' ⟨⟨v', rfl, hnm⟩, rfl⟩
  rw [H.out.2.2] at hnm
  go_wp2
  go_ret
  exact ⟨⟨v', rfl, hnm⟩, (Below.refl _ _).alloc (Nat.le_refl _) _⟩

set_option maxHeartbeats 1000000 in
theorem plain_any (w : World) (v : Value) (n : Nat) (h : Nm w v n) (hn : n < 18446744073709551616) :
    Calls Tryz.prog 205 #[v] w fun e w' => e = .returned (.int .u64 (n : Nat)) ∧ w = w' := by
  obtain ⟨ao, len, cap, ws, rfl, hr, ht, rfl⟩ := h
  have hl : ws.length ≤ 2 := len_le_of_lt ht (n := 2) (by simpa using hn)
  have hlen := hr.len
  match ws, hlen, hr, ht, hn, hl with
  | [], hlen, hr, ht, hn, hl =>
    obtain rfl : len = 0 := by simpa using hlen.symm
    clear hr ht hn hl hlen
    go_enter Tryz.func205, Tryz.ntmps205
    go_wp2
    go_ret
    exact ⟨rfl, rfl⟩
  | [a], hlen, hr, ht, hn, hl =>
    obtain rfl : len = 1 := by simpa using hlen.symm
    obtain ⟨g, off, rfl⟩ := hr.addr (by omega)
    have hc := hr.cell 0 (by omega)
    simp at hc
    have ha := (wok_cons.1 hr.ok).1
    clear hr ht hn hl hlen
    go_enter Tryz.func205, Tryz.ntmps205
    go_wp2
    go_ret
    exact ⟨by simp [wv], rfl⟩
  | [a, b], hlen, hr, ht, hn, hl =>
    obtain rfl : len = 2 := by simpa using hlen.symm
    obtain ⟨g, off, rfl⟩ := hr.addr (by omega)
    have hc := hr.cell 0 (by omega)
    have hc1 := hr.cell 1 (by omega)
    simp at hc hc1
    have ha := (wok_cons.1 hr.ok).1
    have hb := (wok_cons.1 (wok_cons.1 hr.ok).2).1
    clear hr ht hn hl hlen
    go_enter Tryz.func205, Tryz.ntmps205
    go_wp2
    go_ret
    refine ⟨?_, rfl⟩
    have e : bits BinOp.or IntKind.u64 (a : Int) ((b : Int) * 4294967296) = ((a + b * 4294967296 : Nat) : Int) := by
      rw [show ((b : Int) * 4294967296) = ((b * 4294967296 : Nat) : Int) from by omega, u64_or_nat _ _ (by omega) (by omega), Nat.or_comm,
        nat_join 32 _ _ (by omega) (by omega), Nat.add_comm]
    show Ending.returned (.int .u64 (bits BinOp.or IntKind.u64 (a : Int) ((b : Int) * 4294967296))) = _
    rw [e]
    simp only [wv]
    rw [show a + b * 4294967296 = a + 4294967296 * (b + 4294967296 * 0) from by omega]
def bitlen (n : Nat) : Nat := if n = 0 then 0 else Nat.log2 n + 1

theorem bitlen_half (x : Nat) (h : x ≠ 0) : bitlen x = bitlen (x / 2) + 1 := by
  unfold bitlen
  rw [if_neg h]
  rw [Nat.log2_def]
  by_cases h2 : 2 ≤ x
  · rw [if_pos h2, if_neg (by omega)]
  · rw [if_neg h2, if_pos (by omega)]

theorem bitlen_lt (n : Nat) : n < 2 ^ bitlen n := by
  unfold bitlen
  split
  · subst n; decide
  · exact Nat.lt_log2_self

theorem bitlen_le_of_lt {n k : Nat} (h : n < 2 ^ k) : bitlen n ≤ k := by
  unfold bitlen
  split
  · omega
  · rename_i h0
    have := (Nat.log2_lt h0).2 h
    omega

theorem bitlen_ge {n : Nat} (h : n ≠ 0) : 2 ^ (bitlen n - 1) ≤ n := by
  unfold bitlen
  rw [if_neg h]
  exact Nat.log2_self_le h

theorem bitlen_unique {n k : Nat} (h1 : 2 ^ k ≤ n) (h2 : n < 2 ^ (k + 1)) : bitlen n = k + 1 := by
  have h0 : n ≠ 0 := by have := Nat.two_pow_pos k; omega
  have h3 := bitlen_le_of_lt h2
  by_cases hc : bitlen n ≤ k
  · have h4 := bitlen_lt n
    have := Nat.pow_le_pow_right (show 0 < 2 by omega) hc
    omega
  · omega

theorem bitlen_wv {l : List Nat} {n : Nat} (hok : wok l) (ht : tight l) (hl : l.length = n + 1) : bitlen (wv l) = n * 32 + bitlen (l.getD n 0) := by
  have hx := ht n hl
  have h1 : l = l.take n ++ [l.getD n 0] := by
    rw [← take_succ_getD l n (by omega), List.take_of_length_le (by omega)]
  have h2 : wv l = wv (l.take n) + 4294967296 ^ n * l.getD n 0 := by
    conv => lhs; rw [h1]
    rw [wv_snoc, List.length_take, Nat.min_eq_left (by omega)]
  have h3 := wv_lt (wok_take hok n)
  rw [List.length_take, Nat.min_eq_left (by omega)] at h3
  have hp : (4294967296 : Nat) ^ n = 2 ^ (n * 32) := by rw [show 4294967296 = 2 ^ 32 from rfl, ← Nat.pow_mul, Nat.mul_comm]
  generalize l.getD n 0 = x at *
  obtain ⟨k, hk⟩ : ∃ k, bitlen x = k + 1 := ⟨bitlen x - 1, by unfold bitlen; rw [if_neg hx]; omega⟩
  have h4 := bitlen_ge hx
  have h5 := bitlen_lt x
  rw [hk] at h4 h5
  simp only [Nat.add_sub_cancel] at h4
  rw [hk, show n * 32 + (k + 1) = (n * 32 + k) + 1 from by omega]
  refine bitlen_unique ?_ ?_
  · rw [h2, Nat.pow_add, ← hp]
    have := Nat.mul_le_mul_left (4294967296 ^ n) h4
    omega
  · rw [h2, show n * 32 + k + 1 = n * 32 + (k + 1) from by omega, Nat.pow_add, ← hp]
    have := Nat.mul_le_mul_left (4294967296 ^ n) (show x + 1 ≤ 2 ^ (k + 1) from h5)
    rw [Nat.mul_add] at this
    omega

set_option maxHeartbeats 1000000 in
theorem length_any (w : World) (v : Value) (n : Nat) (h : Nm w v n) (hs : Sm n) :
    Calls Tryz.prog 154 #[v] w fun e w' => e = .returned (.int .i64 (bitlen n : Nat)) ∧ w = w' := by
  obtain ⟨ao, len, cap, ws, rfl, hr, ht, rfl, hl⟩ := h.len hs
  cases len with
  | zero =>
    obtain rfl : ws = [] := List.length_eq_zero_iff.1 hr.len
    clear hr ht hs h
    go_enter Tryz.func154, Tryz.ntmps154
    go_wp2
    go_ret
    exact ⟨rfl, rfl⟩
  | succ m =>
    have HB := hid (bitlen_wv hr.ok ht hr.len)
    obtain ⟨g, off, rfl⟩ := hr.addr (by omega)
    have hc := hr.cell m (by omega)
    have hx := wok_getD hr.ok m
    generalize hy : ws.getD m 0 = y at hc hx
    rw [hy] at HB
    have hy0 : bitlen y ≤ 32 := bitlen_le_of_lt hx
    clear hr ht hs hy h
    go_enter Tryz.func154, Tryz.ntmps154
    go_wp2
    go_loop [3, 4] (fun nv tv => ∃ k x : Nat, nv = .int .i64 k ∧ tv = .int .u32 x ∧ x < 4294967296 ∧ k + bitlen x = bitlen y) (fun _ tv => (intOf tv).toNat)
    case atStart => exact ⟨0, y, rfl, rfl, hx, by omega⟩
    case round =>
      obtain ⟨k, x, rfl, rfl, hxl, hkx⟩ := hrel
      have HK := hid hkx
      have hk32 : k ≤ 32 := by omega
      clear hkx
      by_cases hx0 : x = 0
      · subst hx0
        go_wp2
        go_ret
        refine ⟨?_, rfl⟩
        have h1 := HK.out
        have h2 : bitlen 0 = 0 := rfl
        rw [HB.out, ← h1, h2]
        simp
      · have hne : ((x : Int) != 0) = true := by rw [bne_iff_ne]; omega
        go_wp2
        go_round
        case rel =>
          refine ⟨k + 1, x / 2, by simp, by simp, by omega, ?_⟩
          have h1 := HK.out
          rw [bitlen_half x hx0] at h1
          omega
        case measure => simp [intOf] <;> omega
end Go.Proofs.YthoiikkjjaldnaaGreatDoor

/- The walks of left and right on lists of words. -/
namespace Go.Proofs.YthoiikkjjaldnaaGreatDoor
set_option linter.unusedVariables false
set_option linter.unusedSimpArgs false
set_option maxRecDepth 100000
open Go.RowKit

structure LeftInv (w wr : World) (q s m : Nat) (ua : List Nat) (k : Nat) (rs : List Nat) : Prop where
  len : rs.length = m
  ok : wok rs
  val : wv rs = 4294967296 ^ q * (2 ^ s * wv (ua.take k))
  top : ∀ j, k + q < j → rs.getD j 0 = 0
  carry : rs.getD (k + q) 0 < 2 ^ s
  own : wr.ownsRow w.heap.size 172 1 (.slice (some ⟨w.heap.size, 0, none⟩) m m) m (W32 rs)
  bel : Below w.heap.size w wr

theorem getD_set (l : List Nat) (i j x : Nat) (h : i < l.length) : (l.set i x).getD j 0 = if i = j then x else l.getD j 0 := by
  rw [List.getD_eq_getElem?_getD, List.getElem?_set]
  by_cases hij : i = j
  · subst hij; simp [h]
  · rw [if_neg hij, if_neg hij, List.getD_eq_getElem?_getD]

theorem getD_replicate (m j : Nat) : (List.replicate m 0).getD j 0 = 0 := by
  rw [List.getD_eq_getElem?_getD, List.getElem?_replicate]; split <;> rfl

theorem LeftInv.step {w wr : World} {q s m : Nat} {ua : List Nat} {k : Nat} {rs : List Nat} (h : LeftInv w wr q s m ua k rs) (hm : k + q + 1 < m) (hs : s < 32)
    {xa c : Nat} (hx : xa < 4294967296) (hxa : ua.getD k 0 = xa) (hc : rs.getD (k + q) 0 = c) :
    LeftInv w ((wr.setCell ⟨w.heap.size, k + q, none⟩ (.int .u32 ((c + xa * 2 ^ s % 4294967296 : Nat) : Int))).setCell ⟨w.heap.size, k + q + 1, none⟩ (.int .u32 ((xa * 2 ^ s / 4294967296 : Nat) : Int))) q s m ua (k + 1)
      ((rs.set (k + q) (c + xa * 2 ^ s % 4294967296)).set (k + q + 1) (xa * 2 ^ s / 4294967296)) := by
  have hl := h.len
  have hcs := h.carry
  rw [hc] at hcs
  obtain ⟨t, ht⟩ : ∃ t, 32 = s + t := ⟨32 - s, by omega⟩
  have hP : (4294967296 : Nat) = 2 ^ s * 2 ^ t := by rw [← Nat.pow_add, ← ht]
  have hmod : xa * 2 ^ s % 4294967296 = 2 ^ s * (xa % 2 ^ t) := by
    rw [hP, Nat.mul_comm xa, Nat.mul_mod_mul_left]
  have hdiv : xa * 2 ^ s / 4294967296 < 2 ^ s := by
    rw [Nat.div_lt_iff_lt_mul (by decide), Nat.mul_comm]
    exact Nat.mul_lt_mul_of_pos_left hx (Nat.two_pow_pos s)
  have hc1 : c + xa * 2 ^ s % 4294967296 < 4294967296 := by
    rw [hmod]
    have h1 : xa % 2 ^ t < 2 ^ t := Nat.mod_lt _ (Nat.two_pow_pos t)
    have h2 := Nat.mul_le_mul_left (2 ^ s) (show xa % 2 ^ t + 1 ≤ 2 ^ t from h1)
    rw [Nat.mul_add, ← hP] at h2
    omega
  have hd1 : xa * 2 ^ s / 4294967296 < 4294967296 := by
    have : 2 ^ s ≤ 2 ^ 32 := Nat.pow_le_pow_right (by decide) (by omega)
    omega
  refine ⟨by simpa using hl, wok_set (wok_set h.ok _ hc1) _ hd1, ?_, ?_, ?_, ?_, (h.bel.setCell (Nat.le_refl _) _).setCell (Nat.le_refl _) _⟩
  · have e1 := wv_set (l := rs) (k := k + q) (by omega) (c + xa * 2 ^ s % 4294967296)
    have e2 := wv_set (l := rs.set (k + q) (c + xa * 2 ^ s % 4294967296)) (k := k + q + 1) (by simp; omega) (xa * 2 ^ s / 4294967296)
    rw [getD_set _ _ _ _ (by omega), if_neg (by omega), h.top _ (by omega)] at e2
    rw [hc] at e1
    have e3 := h.val
    rw [wv_take_succ', hxa]
    have e4 : 4294967296 ^ (k + q + 1) * (xa * 2 ^ s / 4294967296) + 4294967296 ^ (k + q) * (xa * 2 ^ s % 4294967296) = 4294967296 ^ (k + q) * (xa * 2 ^ s) := by
      rw [Nat.pow_succ, Nat.mul_assoc, ← Nat.mul_add, Nat.div_add_mod]
    have e5 : 4294967296 ^ q * (2 ^ s * (wv (ua.take k) + 4294967296 ^ k * xa)) = 4294967296 ^ q * (2 ^ s * wv (ua.take k)) + 4294967296 ^ (k + q) * (xa * 2 ^ s) := by
      rw [Nat.mul_add, Nat.mul_add, Nat.pow_add, Nat.mul_comm xa]
      congr 1
      rw [Nat.mul_left_comm (2 ^ s), ← Nat.mul_assoc, Nat.mul_comm (4294967296 ^ q)]
    rw [e5, ← e4, ← e3]
    rw [Nat.mul_add] at e1
    omega
  · intro j hj
    rw [getD_set _ _ _ _ (by simp; omega), if_neg (by omega), getD_set _ _ _ _ (by omega), if_neg (by omega)]
    exact h.top j (by omega)
  · rw [getD_set _ _ _ _ (by simp; omega), if_pos (by omega)]
    exact hdiv
  · have h1 := (h.own.stored (k + q) (.int .u32 ((c + xa * 2 ^ s % 4294967296 : Nat) : Int))).1
    rw [W32_set] at h1
    have h2 := (h1.stored (k + q + 1) (.int .u32 ((xa * 2 ^ s / 4294967296 : Nat) : Int))).1
    rwa [W32_set] at h2

theorem left_arith {xa c s : Nat} (hx : xa < 4294967296) (hs : s < 32) (hc : c < 2 ^ s) :
    bits BinOp.or IntKind.u32 (c : Int) (IntKind.u64.wrap ((xa : Int) * 2 ^ s) % 4294967296) = ((c + xa * 2 ^ s % 4294967296 : Nat) : Int) ∧
    bits BinOp.or IntKind.u32 0 (IntKind.u64.wrap ((xa : Int) * 2 ^ s) / 4294967296 % 4294967296) = ((xa * 2 ^ s / 4294967296 : Nat) : Int) := by
  have h1 : xa * 2 ^ s < 18446744073709551616 := by
    have h2 : 2 ^ s ≤ 2 ^ 32 := Nat.pow_le_pow_right (by decide) (by omega)
    have h3 : xa * 2 ^ s ≤ xa * 2 ^ 32 := Nat.mul_le_mul_left _ h2
    omega
  have e0 : IntKind.u64.wrap ((xa : Int) * 2 ^ s) = ((xa * 2 ^ s : Nat) : Int) := by
    rw [show ((xa : Int) * 2 ^ s) = ((xa * 2 ^ s : Nat) : Int) from by simp]
    have : IntKind.u64.wrap ((xa * 2 ^ s : Nat) : Int) = ((xa * 2 ^ s : Nat) : Int) % 18446744073709551616 := by
      simp [IntKind.wrap, IntKind.signed, IntKind.bits]
    rw [this]; omega
  have hc2 : c < 4294967296 := by
    have h2 : 2 ^ s ≤ 2 ^ 32 := Nat.pow_le_pow_right (by decide) (by omega)
    omega
  rw [e0]
  constructor
  · rw [show (((xa * 2 ^ s : Nat) : Int) % 4294967296) = ((xa * 2 ^ s % 4294967296 : Nat) : Int) from by omega, u32_or_nat _ _ hc2 (by omega), Nat.or_comm,
      nat_join s _ _ ?_ hc, Nat.add_comm]
    rw [Nat.mod_mod_of_dvd]
    · exact Nat.mul_mod_left _ _
    · exact ⟨2 ^ (32 - s), by rw [← Nat.pow_add, Nat.add_sub_cancel' (by omega)]⟩
  · rw [show (((xa * 2 ^ s : Nat) : Int) / 4294967296 % 4294967296) = ((xa * 2 ^ s / 4294967296 : Nat) : Int) from by omega]
    rw [show (0 : Int) = ((0 : Nat) : Int) from rfl, u32_or_nat _ _ (by omega) (by omega)]
    simp

set_option maxHeartbeats 1000000 in
theorem left_any (w : World) (va : Value) (a n : Nat) (ha : Nm w va a) (sa : Sm a) (hn : n ≤ 1000) :
    Calls Tryz.prog 79 #[va, .int .u64 (n : Nat)] w (GivesNm w (a * 2 ^ n)) := by
  obtain ⟨i0, hi, hz0, hz1, hz2⟩ := info_parts info32
  obtain ⟨ao, an, ac, ua, rfl, hra, hta, rfl, hla⟩ := ha.len sa
  cases an with
  | zero =>
    obtain rfl : ua = [] := List.length_eq_zero_iff.1 hra.len
    clear hra hta ha sa
    go_enter Tryz.func79, Tryz.ntmps79
    go_wp2
    go_ret
    exact ⟨⟨_, rfl, by simpa [wv] using Nm.nil w⟩, Below.refl _ _⟩
  | succ an =>
  have HA := hid hra
  clear hra hta ha sa
  obtain ⟨g, off, rfl⟩ := HA.out.addr (by omega)
  obtain ⟨q, s, hs, hq, HN⟩ : ∃ q s, s < 32 ∧ q ≤ 40 ∧ Hid (n = 32 * q + s) := ⟨n / 32, n % 32, by omega, by omega, hid (by omega)⟩
  have eq : (n : Int) / 32 = (q : Int) := by have := HN.out; omega
  have es : (n : Int) % 32 = (s : Int) := by have := HN.out; omega
  go_enter Tryz.func79, Tryz.ntmps79
  go_wp2_with (first
    | (at_make; refine wpList_make_full _ rfl _ _ 78 rfl w.heap.size 172 i0 (.int .u32 0) 1 Tryz.underlying78 hi hz0 hz1 _ _ _ _ (an + 1 + q + 1) rfl rfl (by omega) (by omega) (by rw [hz2]; omega) (by unfold maxLen; omega) (Nat.le_refl _) ?_; intro w1 hown hgrow)
    )
  rw [make32] at hown
  have inv0 : LeftInv w w1 q s (an + 1 + q + 1) ua 0 (List.replicate (an + 1 + q + 1) 0) := ⟨by simp, wok_replicate _, by simp [wv, wv_replicate], fun j _ => getD_replicate _ _, by rw [getD_replicate]; exact Nat.two_pow_pos s, hown, (Below.refl _ _).grown hgrow (Nat.le_refl _) (fun k h => by cases h)⟩
  clear hown hgrow
  go_loopw [8, 9] (fun iv _ wr => ∃ (k : Nat) (rs : List Nat), k ≤ an + 1 ∧ iv = .int .i64 k ∧ LeftInv w wr q s (an + 1 + q + 1) ua k rs) (fun iv _ _ => an + 1 - (intOf iv).toNat)
  case atStart => exact ⟨0, _, by omega, rfl, inv0⟩
  case round =>
    clear inv0 w1
    obtain ⟨k, rs, hk, rfl, inv⟩ := hrel
    have hsz := inv.bel.size
    by_cases hka : k < an + 1
    · have hca := (HA.out.below inv.bel (Nat.le_refl _)).cell k hka
      have hra := wok_getD HA.out.ok k
      generalize hxa : ua.getD k 0 = xa at hca hra
      have HXA := hid hxa
      clear hxa
      obtain ⟨c, hc⟩ : ∃ c, rs.getD (k + q) 0 = c := ⟨_, rfl⟩
      have hcr : wr.cell? ⟨w.heap.size, k + q, none⟩ = some (.int .u32 (c : Nat)) := by
        rw [inv.own.cellAt (k + q) (by omega), ← hc, getD_elem _ _ (by rw [inv.len]; omega)]
        simp [W32, inv.len, show k + q < an + 1 + q + 1 from by omega]
      have hcr2 : wr.cell? ⟨w.heap.size, k + q + 1, none⟩ = some (.int .u32 0) := by
        have h0 := inv.top (k + q + 1) (by omega)
        rw [getD_elem _ _ (by rw [inv.len]; omega)] at h0
        rw [inv.own.cellAt (k + q + 1) (by omega)]
        simp [W32, inv.len, show k + q + 1 < an + 1 + q + 1 from by omega, h0]
      have hfr := inv.own.frozenAt (k + q)
      have hfr2 := inv.own.frozenAt (k + q + 1)
      have hcs := inv.carry
      rw [hc] at hcs
      have HC := hid (And.intro hc hcs)
      have INV := hid inv
      clear inv hc hcs
      go_wp2
      go_roundw
      case rel =>
        obtain ⟨e1, e2⟩ := left_arith hra hs HC.out.2
        rw [e1, e2]
        exact ⟨k + 1, _, by omega, by simp, INV.out.step (by omega) hs hra HXA.out HC.out.1⟩
      case measure => simp [intOf] <;> omega
    · obtain rfl : k = an + 1 := by omega
      have INV := hid inv
      clear inv
      go_wp2_with (go_at_call 151; refine (trim_own _ w.heap.size _ (an + 1 + q + 1) rs INV.out.own INV.out.ok).mono ?_; rintro e w' ⟨⟨v', rfl, hnm⟩, rfl⟩)
      go_ret
      refine ⟨⟨v', rfl, ?_⟩, INV.out.bel⟩
      have hv := INV.out.val
      rw [List.take_of_length_le (by rw [HA.out.len]; omega)] at hv
      rw [HN.out, Nat.pow_add, Nat.pow_mul, Nat.mul_comm, Nat.mul_assoc, show (2 : Nat) ^ 32 = 4294967296 from rfl, ← hv]
      exact hnm
structure RightInv (w wr : World) (m M : Nat) (k : Nat) (rs : List Nat) : Prop where
  len : rs.length = m
  ok : wok rs
  val : wv (rs.take k) = M % 4294967296 ^ k
  own : wr.ownsRow w.heap.size 172 1 (.slice (some ⟨w.heap.size, 0, none⟩) m m) m (W32 rs)
  bel : Below w.heap.size w wr

theorem RightInv.step {w wr : World} {m M k : Nat} {rs : List Nat} (h : RightInv w wr m M k rs) (hk : k < m) {x : Nat} (hx : x = M / 4294967296 ^ k % 4294967296) :
    RightInv w (wr.setCell ⟨w.heap.size, k, none⟩ (.int .u32 (x : Nat))) m M (k + 1) (rs.set k x) := by
  have hl := h.len
  have hlt : x < 4294967296 := by rw [hx]; exact Nat.mod_lt _ (by decide)
  refine ⟨by simpa using h.len, wok_set h.ok k hlt, ?_, ?_, h.bel.setCell (Nat.le_refl _) _⟩
  · rw [take_set_succ _ _ _ (by omega), wv_snoc, List.length_take, Nat.min_eq_left (by omega), h.val, hx, Nat.pow_succ, Nat.mod_mul]
  · have := (h.own.stored k (.int .u32 (x : Nat))).1
    rwa [W32_set] at this

theorem wv_drop (l : List Nat) (hok : wok l) (q : Nat) (h : q ≤ l.length) : wv (l.drop q) = wv l / 4294967296 ^ q := by
  have e : wv l = wv (l.take q) + 4294967296 ^ q * wv (l.drop q) := by
    conv => lhs; rw [← List.take_append_drop q l]
    rw [wv_append, List.length_take, Nat.min_eq_left h]
  have hlt := wv_lt (wok_take hok q)
  rw [List.length_take, Nat.min_eq_left h] at hlt
  rw [e, Nat.add_mul_div_left _ _ (pow32_pos q), Nat.div_eq_of_lt hlt, Nat.zero_add]

/-- A word of a number moved to the right. -/
theorem right_digit (l : List Nat) (hok : wok l) (q s k : Nat) (hs : s < 32) (hk : q + k < l.length) :
    wv l / 2 ^ (32 * q + s) / 4294967296 ^ k % 4294967296 = (l.getD (q + k) 0 + 4294967296 * l.getD (q + k + 1) 0) / 2 ^ s % 4294967296 := by
  obtain ⟨t, ht⟩ : ∃ t, 32 = s + t := ⟨32 - s, by omega⟩
  have hP : (4294967296 : Nat) = 2 ^ s * 2 ^ t := by rw [← Nat.pow_add, ← ht]
  rw [Nat.pow_add, Nat.pow_mul, show (2 : Nat) ^ 32 = 4294967296 from rfl, ← Nat.div_div_eq_div_mul, Nat.div_div_eq_div_mul, Nat.mul_comm (2 ^ s), ← Nat.div_div_eq_div_mul, Nat.div_div_eq_div_mul (wv l), ← Nat.pow_add, ← wv_drop l hok _ (by omega)]
  rw [drop_getD l (q + k) hk, wv]
  by_cases h2 : q + k + 1 < l.length
  · rw [drop_getD l (q + k + 1) h2, wv]
    generalize l.getD (q + k) 0 = a
    generalize l.getD (q + k + 1) 0 = b
    generalize wv (l.drop (q + k + 1 + 1)) = R
    have e : a + 4294967296 * (b + 4294967296 * R) = (a + 4294967296 * b) + 2 ^ s * (4294967296 * (2 ^ t * R)) := by
      rw [Nat.mul_add, ← Nat.add_assoc]
      congr 1
      conv => lhs; rw [show 4294967296 * (4294967296 * R) = 4294967296 * (R * 4294967296) from by rw [Nat.mul_comm R]]
      rw [← Nat.mul_assoc (2 ^ s), Nat.mul_comm (2 ^ s) 4294967296, Nat.mul_assoc 4294967296, ← Nat.mul_assoc (2 ^ s), ← hP, Nat.mul_comm R]
    rw [e, Nat.add_mul_div_left _ _ (Nat.two_pow_pos s), Nat.add_mul_mod_self_left]
  · rw [List.drop_of_length_le (by omega)]
    have : l.getD (q + k + 1) 0 = 0 := by rw [List.getD_eq_getElem?_getD, List.getElem?_eq_none (by omega)]; rfl
    rw [this]
    rfl

theorem right_arith {a b s : Nat} (ha : a < 4294967296) (hb : b < 4294967296) (hs : s < 32) :
    bits BinOp.or IntKind.u64 (a : Int) ((b : Int) * 4294967296) / 2 ^ s % 4294967296 = (((a + 4294967296 * b) / 2 ^ s % 4294967296 : Nat) : Int) := by
  have e : bits BinOp.or IntKind.u64 (a : Int) ((b : Int) * 4294967296) = ((a + 4294967296 * b : Nat) : Int) := by
    rw [show ((b : Int) * 4294967296) = ((b * 4294967296 : Nat) : Int) from by omega, u64_or_nat _ _ (by omega) (by omega), Nat.or_comm,
      nat_join 32 _ _ (by omega) (by omega), Nat.add_comm, Nat.mul_comm]
  rw [e]
  simp

set_option maxHeartbeats 1000000 in
theorem right_any (w : World) (va : Value) (a n : Nat) (ha : Nm w va a) (sa : Sm a) (hn : n ≤ 10000) :
    Calls Tryz.prog 147 #[va, .int .u64 (n : Nat)] w (GivesNm w (a / 2 ^ n)) := by
  obtain ⟨i0, hi, hz0, hz1, hz2⟩ := info_parts info32
  obtain ⟨ao, an, ac, ua, rfl, hra, hta, rfl, hla⟩ := ha.len sa
  obtain ⟨q, s, hs, hq, HN⟩ : ∃ q s, s < 32 ∧ q ≤ 400 ∧ Hid (n = 32 * q + s) := ⟨n / 32, n % 32, by omega, by omega, hid (by omega)⟩
  have eq : (n : Int) / 32 = (q : Int) := by have := HN.out; omega
  have es : (n : Int) % 32 = (s : Int) := by have := HN.out; omega
  have HA := hid hra
  clear hra hta ha sa
  by_cases hqa : an ≤ q
  · have h0 : wv ua / 2 ^ n = 0 := by
      rw [HN.out, Nat.pow_add, Nat.pow_mul, show (2 : Nat) ^ 32 = 4294967296 from rfl, ← Nat.div_div_eq_div_mul]
      have h1 := wv_lt HA.out.ok
      rw [HA.out.len] at h1
      have h2 : (4294967296 : Nat) ^ an ≤ 4294967296 ^ q := Nat.pow_le_pow_right (by decide) hqa
      rw [Nat.div_eq_of_lt (a := wv ua) (by omega), Nat.zero_div]
    have H0 := hid h0
    clear h0
    go_enter Tryz.func147, Tryz.ntmps147
    go_wp2
    go_ret
    exact ⟨⟨_, rfl, by rw [H0.out]; exact Nm.nil w⟩, Below.refl _ _⟩
  · obtain ⟨g, off, rfl⟩ := HA.out.addr (by omega)
    obtain ⟨m, hm⟩ : ∃ m, an = q + m + 1 := ⟨an - q - 1, by omega⟩
    obtain rfl := hm
    go_enter Tryz.func147, Tryz.ntmps147
    go_wp2_with (first
      | (at_make; refine wpList_make_full _ rfl _ _ 78 rfl w.heap.size 172 i0 (.int .u32 0) 1 Tryz.underlying78 hi hz0 hz1 _ _ _ _ (m + 1) rfl rfl (by omega) (by omega) (by rw [hz2]; omega) (by unfold maxLen; omega) (Nat.le_refl _) ?_; intro w1 hown hgrow)
      )
    rw [make32] at hown
    have inv0 : RightInv w w1 (m + 1) (wv ua / 2 ^ n) 0 (List.replicate (m + 1) 0) := ⟨by simp, wok_replicate _, by simp [wv, Nat.mod_one], hown, (Below.refl _ _).grown hgrow (Nat.le_refl _) (fun k h => by cases h)⟩
    clear hown hgrow
    go_loopw [8, 9] (fun iv _ wr => ∃ (k : Nat) (rs : List Nat), k ≤ m + 1 ∧ iv = .int .i64 k ∧ RightInv w wr (m + 1) (wv ua / 2 ^ n) k rs) (fun iv _ _ => m + 1 - (intOf iv).toNat)
    case atStart => exact ⟨0, _, by omega, rfl, inv0⟩
    case round =>
      clear inv0 w1
      obtain ⟨k, rs, hk, rfl, inv⟩ := hrel
      have hsz := inv.bel.size
      by_cases hka : k < m + 1
      · have hcr : ∃ v, wr.cell? ⟨w.heap.size, k, none⟩ = some v := by
          rw [inv.own.cellAt k (by omega)]
          exact ⟨_, List.getElem?_eq_getElem (by simp [W32, inv.len]; omega)⟩
        have hfr := inv.own.frozenAt k
        obtain ⟨v0, hcr⟩ := hcr
        have INV := hid inv
        clear inv
        have hca := (HA.out.below INV.out.bel (Nat.le_refl _)).cell (k + q) (by omega)
        have hra := wok_getD HA.out.ok (k + q)
        have HD := hid (right_digit ua HA.out.ok q s k hs (by rw [HA.out.len]; omega))
        rw [Nat.add_comm q k] at HD
        generalize hxa : ua.getD (k + q) 0 = xa at hca hra
        have HXA := hid hxa
        by_cases hlast : k = m
        · have h0 : ua.getD (k + q + 1) 0 = 0 := by rw [List.getD_eq_getElem?_getD, List.getElem?_eq_none (by rw [HA.out.len]; omega)]; rfl
          rw [h0, hxa, ← HN.out, Nat.mul_zero, Nat.add_zero] at HD
          clear hxa h0
          subst hlast
          go_wp2
          go_roundw
          case rel =>
            refine ⟨k + 1, rs.set k (xa / 2 ^ s % 4294967296), by omega, by simp, ?_⟩
            have := INV.out.step (by omega) HD.out.symm
            simpa using this
          case measure => simp [intOf] <;> omega
        · have hcb := (HA.out.below INV.out.bel (Nat.le_refl _)).cell (k + q + 1) (by omega)
          have hrb := wok_getD HA.out.ok (k + q + 1)
          generalize hxb : ua.getD (k + q + 1) 0 = xb at hcb hrb
          rw [hxb, hxa, ← HN.out] at HD
          clear hxa hxb
          go_wp2
          go_roundw
          case rel =>
            refine ⟨k + 1, rs.set k ((xa + 4294967296 * xb) / 2 ^ s % 4294967296), by omega, by simp, ?_⟩
            rw [right_arith hra hrb hs]
            exact INV.out.step (by omega) HD.out.symm
          case measure => simp [intOf] <;> omega
      · obtain rfl : k = m + 1 := by omega
        have INV := hid inv
        clear inv
        go_wp2_with (go_at_call 151; refine (trim_own _ w.heap.size _ (m + 1) rs INV.out.own INV.out.ok).mono ?_; rintro e w' ⟨⟨v', rfl, hnm⟩, rfl⟩)
        go_ret
        refine ⟨⟨v', rfl, ?_⟩, INV.out.bel⟩
        have hv := INV.out.val
        have hl := INV.out.len
        rw [List.take_of_length_le (by omega)] at hv
        rw [hv, Nat.mod_eq_of_lt] at hnm
        · exact hnm
        · have h1 := wv_lt HA.out.ok
          rw [HA.out.len] at h1
          rw [HN.out, Nat.pow_add, Nat.pow_mul, show (2 : Nat) ^ 32 = 4294967296 from rfl, ← Nat.div_div_eq_div_mul]
          refine Nat.lt_of_le_of_lt (Nat.div_le_self _ _) ?_
          rw [Nat.div_lt_iff_lt_mul (pow32_pos q), ← Nat.pow_add]
          rw [show m + 1 + q = q + m + 1 from by omega]
          exact h1
end Go.Proofs.YthoiikkjjaldnaaGreatDoor

/- The walk of mul on lists of words. -/
namespace Go.Proofs.YthoiikkjjaldnaaGreatDoor
set_option linter.unusedVariables false
set_option linter.unusedSimpArgs false
set_option maxRecDepth 100000
open Go.RowKit

structure MulInv (w wr : World) (m : Nat) (V : Nat) (t : Nat) (rs : List Nat) : Prop where
  len : rs.length = m
  ok : wok rs
  val : wv rs = V
  top : ∀ j, t ≤ j → rs.getD j 0 = 0
  own : wr.ownsRow w.heap.size 172 1 (.slice (some ⟨w.heap.size, 0, none⟩) m m) m (W32 rs)
  bel : Below w.heap.size w wr

theorem MulInv.drewN {w wr : World} {m V t : Nat} {rs : List Nat} (h : MulInv w wr m V t rs) (n : Nat) : MulInv w (wr.drewN n) m V t rs :=
  ⟨h.len, h.ok, h.val, h.top, h.own, h.bel.trans ⟨rfl, rfl, rfl, Nat.le_refl _, fun _ _ => rfl⟩⟩

/-- A store of word p: the value turns by what the word turns. -/
theorem MulInv.step {w wr : World} {m V t : Nat} {rs : List Nat} (h : MulInv w wr m V t rs) {p x r V' : Nat} (hp : p < m) (hx : x < 4294967296) (hr : rs.getD p 0 = r)
    (hV : V' + 4294967296 ^ p * r = V + 4294967296 ^ p * x) (t' : Nat) (ht : t ≤ t') (hpt : p < t') :
    MulInv w (wr.setCell ⟨w.heap.size, p, none⟩ (.int .u32 (x : Nat))) m V' t' (rs.set p x) := by
  have hl := h.len
  refine ⟨by simpa using hl, wok_set h.ok _ hx, ?_, fun j hj => ?_, ?_, h.bel.setCell (Nat.le_refl _) _⟩
  · have e1 := wv_set (l := rs) (k := p) (by omega) x
    rw [hr, h.val] at e1
    omega
  · rw [getD_set _ _ _ _ (by omega), if_neg (by omega)]
    exact h.top j (by omega)
  · have := (h.own.stored p (.int .u32 (x : Nat))).1
    rwa [W32_set] at this

theorem mul_arith {c xa xb r : Nat} (hc : c < 4294967296) (ha : xa < 4294967296) (hb : xb < 4294967296) (hr : r < 4294967296) :
    c + (xa * xb + r) < 18446744073709551616 ∧ (c + (xa * xb + r)) / 4294967296 < 4294967296 := by
  have h1 : xa * xb ≤ 4294967295 * 4294967295 := Nat.mul_le_mul (by omega) (by omega)
  have h2 : c + (xa * xb + r) < 18446744073709551616 := by omega
  exact ⟨h2, by omega⟩

theorem mul_arith' {c xa xb r : Nat} (h : c + (xa * xb + r) < 18446744073709551616) :
    IntKind.u64.wrap ((c : Int) + IntKind.u64.wrap (IntKind.u64.wrap ((xa : Int) * xb) + r)) = ((c + (xa * xb + r) : Nat) : Int) := by
  have e : ∀ z, IntKind.u64.wrap z = z % 18446744073709551616 := by intro z; simp [IntKind.wrap, IntKind.signed, IntKind.bits]
  rw [e, e, e, show ((xa : Int) * xb) = ((xa * xb : Nat) : Int) from by simp]
  generalize xa * xb = p at *
  omega

theorem mul_V {B P V c xa xb r S : Nat} (hV : V + P * c = S) (hr : P * r ≤ V) :
    (V - P * r + P * ((c + (xa * xb + r)) % B)) + (P * B) * ((c + (xa * xb + r)) / B) = S + P * (xa * xb) := by
  rw [Nat.mul_assoc P, Nat.add_assoc, ← Nat.mul_add, Nat.mod_add_div]
  rw [Nat.mul_add, Nat.mul_add]
  omega

theorem getD_wv_le (l : List Nat) (p : Nat) : 4294967296 ^ p * l.getD p 0 ≤ wv l := by
  by_cases h : p < l.length
  · have e : wv l = wv (l.take (p + 1)) + 4294967296 ^ (p + 1) * wv (l.drop (p + 1)) := by
      conv => lhs; rw [← List.take_append_drop (p + 1) l]
      rw [wv_append, List.length_take, Nat.min_eq_left (by omega)]
    rw [e, wv_take_succ']
    omega
  · rw [List.getD_eq_getElem?_getD, List.getElem?_eq_none (by omega)]; simp

set_option maxHeartbeats 2000000 in
theorem mul_any (w : World) (va vb : Value) (a b : Nat) (ha : Nm w va a) (hb : Nm w vb b) (sa : Sm a) (sb : Sm b) :
    Calls Tryz.prog 175 #[va, vb] w (GivesNm w (a * b)) := by
  obtain ⟨i0, hi, hz0, hz1, hz2⟩ := info_parts info32
  obtain ⟨ao, an, ac, ua, rfl, hra, hta, rfl, hla⟩ := ha.len sa
  obtain ⟨bo, bn, bc, ub, rfl, hrb, htb, rfl, hlb⟩ := hb.len sb
  have HA := hid hra
  have HB := hid hrb
  clear hra hrb hta htb ha hb sa sb
  by_cases ha0 : an = 0
  · subst ha0
    have h0 : wv ua * wv ub = 0 := by
      have : ua = [] := List.length_eq_zero_iff.1 HA.out.len
      rw [this]; simp [wv]
    rw [h0]
    clear h0
    go_enter Tryz.func175, Tryz.ntmps175
    go_wp2
    go_ret
    exact ⟨⟨_, rfl, Nm.nil w⟩, Below.refl _ _⟩
  by_cases hb0 : bn = 0
  · subst hb0
    have h0 : wv ua * wv ub = 0 := by
      have : ub = [] := List.length_eq_zero_iff.1 HB.out.len
      rw [this]; simp [wv]
    rw [h0]
    clear h0
    have hne : ((an : Int) == 0) = false := by rw [beq_eq_false_iff_ne]; omega
    go_enter Tryz.func175, Tryz.ntmps175
    go_wp2
    go_ret
    exact ⟨⟨_, rfl, Nm.nil w⟩, Below.refl _ _⟩
  obtain ⟨g, off, rfl⟩ := HA.out.addr (by omega)
  obtain ⟨g2, off2, rfl⟩ := HB.out.addr (by omega)
  have hne : ((an : Int) == 0) = false := by rw [beq_eq_false_iff_ne]; omega
  have hne2 : ((bn : Int) == 0) = false := by rw [beq_eq_false_iff_ne]; omega
  clear ha0 hb0
  go_enter Tryz.func175, Tryz.ntmps175
  go_wp2_with (first
    | (at_make; refine wpList_make_full _ rfl _ _ 78 rfl w.heap.size 172 i0 (.int .u32 0) 1 Tryz.underlying78 hi hz0 hz1 _ _ _ _ (an + bn) rfl rfl (by simp) (by simp) (by rw [hz2]; omega) (by unfold maxLen; omega) (Nat.le_refl _) ?_; intro w1 hown hgrow)
    )
  rw [make32] at hown
  have inv0 : MulInv w w1 (an + bn) 0 bn (List.replicate (an + bn) 0) := ⟨by simp, wok_replicate _, wv_replicate _, fun j _ => getD_replicate _ _, hown, (Below.refl _ _).grown hgrow (Nat.le_refl _) (fun k h => by cases h)⟩
  clear hown hgrow hne hne2
  go_loopw [6, 7, 8] (fun iv _ _ wr => ∃ (i : Nat) (rs : List Nat), i ≤ an ∧ iv = .int .i64 i ∧ MulInv w wr (an + bn) (wv (ua.take i) * wv ub) (i + bn) rs) (fun iv _ _ _ => an - (intOf iv).toNat)
  case atStart => exact ⟨0, _, by omega, rfl, by simpa [wv] using inv0⟩
  case round =>
    clear inv0 w1
    obtain ⟨i, rs, hi', rfl, inv⟩ := hrel
    have hsz := inv.bel.size
    by_cases hka : i < an
    · have hra := wok_getD HA.out.ok i
      have hca := (HA.out.below inv.bel (Nat.le_refl _)).cell i hka
      generalize hxa : ua.getD i 0 = xa at hca hra
      have HXA := hid hxa
      clear hxa hca
      have INV := hid inv
      clear inv
      obtain ⟨wo, rfl⟩ : ∃ wo : World, wo = wr := ⟨_, rfl⟩
      go_wp2
      go_loopw [7, 8] (fun cv jv wr => ∃ (j c V : Nat) (rs : List Nat), j ≤ bn ∧ jv = .int .i64 j ∧ cv = .int .u64 c ∧ c < 4294967296 ∧ MulInv w wr (an + bn) V (i + bn) rs ∧ V + 4294967296 ^ (i + j) * c = wv (ua.take i) * wv ub + 4294967296 ^ i * (xa * wv (ub.take j))) (fun _ jv _ => bn - (intOf jv).toNat)
      case atStart => exact ⟨0, 0, _, _, by omega, rfl, rfl, by omega, INV.out, by simp [wv]⟩
      case round =>
        clear INV
        obtain ⟨j, c, V, rs, hj, rfl, rfl, hc, inv, hV⟩ := hrel
        have hsz := inv.bel.size
        have hcr : ∃ r : Nat, r < 4294967296 ∧ wr.cell? ⟨w.heap.size, i + j, none⟩ = some (.int .u32 (r : Nat)) ∧ rs.getD (i + j) 0 = r := by
          refine ⟨rs.getD (i + j) 0, wok_getD inv.ok _, ?_, rfl⟩
          rw [inv.own.cellAt (i + j) (by omega), getD_elem _ _ (by rw [inv.len]; omega)]
          simp [W32, inv.len, show i + j < an + bn from by omega]
        have hfr := inv.own.frozenAt (i + j)
        have INV := hid inv
        have HV := hid hV
        clear inv hV
        by_cases hkb : j < bn
        · have hca := (HA.out.below INV.out.bel (Nat.le_refl _)).cell i hka
          rw [HXA.out] at hca
          have hrb := wok_getD HB.out.ok j
          have hcb := (HB.out.below INV.out.bel (Nat.le_refl _)).cell j hkb
          generalize hxb : ub.getD j 0 = xb at hcb hrb
          have HXB := hid hxb
          clear hxb
          obtain ⟨r, hr, hcr, hr2⟩ := hcr
          have HR := hid hr2
          clear hr2
          go_wp2
          go_quiet (fail)
          go_wp2
          go_roundw
          case rel =>
            have h64 := mul_arith hc hra hrb hr
            rw [mul_arith' h64.1]
            have hle := getD_wv_le rs (i + j)
            rw [HR.out, INV.out.val] at hle
            have hv := mul_V (B := 4294967296) (xa := xa) (xb := xb) HV.out hle
            refine ⟨j + 1, (c + (xa * xb + r)) / 4294967296, V - 4294967296 ^ (i + j) * r + 4294967296 ^ (i + j) * ((c + (xa * xb + r)) % 4294967296), rs.set (i + j) ((c + (xa * xb + r)) % 4294967296), by omega, by simp, by simp, h64.2, ?_, ?_⟩
            · rw [show (((c + (xa * xb + r) : Nat) : Int) % 4294967296) = (((c + (xa * xb + r)) % 4294967296 : Nat) : Int) from by omega]
              exact (INV.out.drewN _).step (by omega) (by omega) HR.out (by omega) _ (Nat.le_refl _) (by omega)
            · rw [← Nat.add_assoc i j 1, Nat.pow_succ, hv, wv_take_succ', HXB.out, Nat.mul_add xa, Nat.mul_add (4294967296 ^ i), Nat.pow_add, ← Nat.add_assoc]
              congr 1
              rw [Nat.mul_assoc, Nat.mul_left_comm xa]
          case measure => simp [intOf] <;> omega
        · obtain rfl : j = bn := by omega
          obtain ⟨r, hr, hcr, hr2⟩ := hcr
          have hr0 : r = 0 := by rw [← hr2]; exact INV.out.top _ (by omega)
          subst hr0
          have HR := hid hr2
          clear hr2
          have e1 : (c : Int) % 4294967296 = (c : Int) := by omega
          go_wp2
          go_roundw
          case rel =>
            refine ⟨i + 1, rs.set (i + j) c, by omega, by simp, ?_⟩
            have hv := HV.out
            rw [List.take_of_length_le (l := ub) (by rw [HB.out.len]; omega)] at hv
            have e2 : wv (ua.take (i + 1)) * wv ub = V + 4294967296 ^ (i + j) * c := by
              rw [hv, wv_take_succ', HXA.out, Nat.add_mul, Nat.mul_assoc]
            rw [e2, show i + 1 + j = i + j + 1 from by omega]
            exact INV.out.step (by omega) hc HR.out (by omega) _ (by omega) (by omega)
          case measure => simp [intOf] <;> omega
    · obtain rfl : i = an := by omega
      have INV := hid inv
      clear inv
      go_wp2_with (go_at_call 151; refine (trim_own _ w.heap.size _ (i + bn) rs INV.out.own INV.out.ok).mono ?_; rintro e w' ⟨⟨v', rfl, hnm⟩, rfl⟩)
      go_ret
      refine ⟨⟨v', rfl, ?_⟩, INV.out.bel⟩
      rw [INV.out.val, List.take_of_length_le (by rw [HA.out.len]; omega)] at hnm
      exact hnm
end Go.Proofs.YthoiikkjjaldnaaGreatDoor

/- The walk of sub on lists of words. -/
namespace Go.Proofs.YthoiikkjjaldnaaGreatDoor
set_option linter.unusedVariables false
set_option linter.unusedSimpArgs false
set_option maxRecDepth 100000
open Go.RowKit

theorem u64_wrap (z : Int) : IntKind.u64.wrap z = z % 18446744073709551616 := by
  simp [IntKind.wrap, IntKind.signed, IntKind.bits]

theorem sub_arith (xa xb c : Nat) (hc : c ≤ 1) (ha : xa < 4294967296) (hb : xb < 4294967296) :
    ∃ x c' : Nat, IntKind.u64.wrap (IntKind.u64.wrap ((xa : Int) - c) - xb) % 4294967296 = (x : Int) ∧ IntKind.u64.wrap (IntKind.u64.wrap ((xa : Int) - c) - xb) / 9223372036854775808 = (c' : Int) ∧
      c' ≤ 1 ∧ x < 4294967296 ∧ x + xb + c = xa + 4294967296 * c' := by
  have e : IntKind.u64.wrap (IntKind.u64.wrap ((xa : Int) - c) - xb) = ((xa : Int) - c - xb) % 18446744073709551616 := by
    rw [u64_wrap, u64_wrap, Int.emod_sub_emod]
  rw [e]
  by_cases h : xb + c ≤ xa
  · exact ⟨xa - c - xb, 0, by omega, by omega, by omega, by omega, by omega⟩
  · exact ⟨xa + 4294967296 - c - xb, 1, by omega, by omega, by omega, by omega, by omega⟩

theorem sub_arith0 (xa c : Nat) (hc : c ≤ 1) (ha : xa < 4294967296) :
    ∃ x c' : Nat, IntKind.u64.wrap ((xa : Int) - c) % 4294967296 = (x : Int) ∧ IntKind.u64.wrap ((xa : Int) - c) / 9223372036854775808 = (c' : Int) ∧
      c' ≤ 1 ∧ x < 4294967296 ∧ x + 0 + c = xa + 4294967296 * c' := by
  rw [u64_wrap]
  by_cases h : c ≤ xa
  · exact ⟨xa - c, 0, by omega, by omega, by omega, by omega, by omega⟩
  · exact ⟨xa + 4294967296 - c, 1, by omega, by omega, by omega, by omega, by omega⟩

structure SubInv (w wr : World) (an : Nat) (ua ub : List Nat) (k c : Nat) (rs : List Nat) : Prop where
  len : rs.length = an
  ok : wok rs
  val : wv (rs.take k) + wv (ub.take k) = wv (ua.take k) + 4294967296 ^ k * c
  own : wr.ownsRow w.heap.size 172 1 (.slice (some ⟨w.heap.size, 0, none⟩) an an) an (W32 rs)
  bel : Below w.heap.size w wr

theorem SubInv.step {w wr : World} {an : Nat} {ua ub : List Nat} {k c : Nat} {rs : List Nat} (h : SubInv w wr an ua ub k c rs) (hk : k < an)
    {x c' xa xb : Nat} (hx : x < 4294967296) (hxa : ua.getD k 0 = xa) (hxb : ub.getD k 0 = xb) (hv : x + xb + c = xa + 4294967296 * c') :
    SubInv w (wr.setCell ⟨w.heap.size, k, none⟩ (.int .u32 (x : Nat))) an ua ub (k + 1) c' (rs.set k x) := by
  have hl := h.len
  refine ⟨by simpa using h.len, wok_set h.ok k hx, ?_, ?_, h.bel.setCell (Nat.le_refl _) _⟩
  · rw [take_set_succ _ _ _ (by omega), wv_snoc, List.length_take, Nat.min_eq_left (by omega), wv_take_succ', wv_take_succ', hxa, hxb, Nat.pow_succ]
    have h1 := h.val
    have h2 : 4294967296 ^ k * (x + xb + c) = 4294967296 ^ k * (xa + 4294967296 * c') := by rw [hv]
    simp only [Nat.mul_add] at h2
    rw [Nat.mul_assoc]
    omega
  · have := (h.own.stored k (.int .u32 (x : Nat))).1
    rwa [W32_set] at this

theorem SubInv.fin {w wr : World} {an : Nat} {ua ub : List Nat} {c : Nat} {rs : List Nat} (h : SubInv w wr an ua ub an c rs) (h1 : ua.length = an) (h2 : ub.length ≤ an) (hle : wv ub ≤ wv ua) :
    wv rs = wv ua - wv ub := by
  have hv := h.val
  have hl := h.len
  rw [List.take_of_length_le (l := ua) (by omega), List.take_of_length_le (l := ub) (by omega), List.take_of_length_le (l := rs) (by omega)] at hv
  have h3 := wv_lt h.ok
  rw [hl] at h3
  have : c = 0 := by
    by_cases hc : c = 0
    · exact hc
    · exfalso
      have := Nat.mul_le_mul_left (4294967296 ^ an) (show 1 ≤ c by omega)
      omega
  subst this
  omega

set_option maxHeartbeats 1000000 in
theorem sub_any (w : World) (ao bo : Option Addr) (an ac bn bc : Nat) (ua ub : List Nat) (ha : Rd w ao an ac ua) (hb : Rd w bo bn bc ub) (hn : an ≤ 64) (hge : bn ≤ an) (hle : wv ub ≤ wv ua) :
    Calls Tryz.prog 148 #[.slice ao an ac, .slice bo bn bc] w (GivesNm w (wv ua - wv ub)) := by
  obtain ⟨i0, hi, hz0, hz1, hz2⟩ := info_parts info32
  have HA := hid ha
  have HB := hid hb
  have HL := hid hle
  clear ha hb hle
  go_enter Tryz.func148, Tryz.ntmps148
  go_wp2_with (first
    | (at_make; refine wpList_make_full _ rfl _ _ 78 rfl w.heap.size 172 i0 (.int .u32 0) 1 Tryz.underlying78 hi hz0 hz1 _ _ _ _ an rfl rfl (by simp) (by simp) (by rw [hz2]; omega) (by unfold maxLen; omega) (Nat.le_refl _) ?_; intro w1 hown hgrow)
    )
  rw [make32] at hown
  have inv0 : SubInv w w1 an ua ub 0 0 (List.replicate an 0) := ⟨by simp, wok_replicate _, by simp [wv], hown, (Below.refl _ _).grown hgrow (Nat.le_refl _) (fun k h => by cases h)⟩
  clear hown hgrow
  go_loopw [6, 7, 8] (fun cv iv _ wr => ∃ (k c : Nat) (rs : List Nat), k ≤ an ∧ iv = .int .i64 k ∧ cv = .int .u64 c ∧ c ≤ 1 ∧ SubInv w wr an ua ub k c rs) (fun _ iv _ _ => an - (intOf iv).toNat)
  case atStart => exact ⟨0, 0, _, by omega, rfl, rfl, by omega, inv0⟩
  case round =>
    clear inv0 w1
    obtain ⟨k, c, rs, hk, rfl, rfl, hc1, inv⟩ := hrel
    have hsz := inv.bel.size
    by_cases hka : k < an
    · have hcr : ∃ v, wr.cell? ⟨w.heap.size, k, none⟩ = some v := by
        rw [inv.own.cellAt k (by omega)]
        exact ⟨_, List.getElem?_eq_getElem (by simp [W32, inv.len]; omega)⟩
      have hfr := inv.own.frozenAt k
      obtain ⟨v0, hcr⟩ := hcr
      have INV := hid inv
      clear inv
      obtain ⟨g, off, rfl⟩ := HA.out.addr (by omega)
      have hca := (HA.out.below INV.out.bel (Nat.le_refl _)).cell k hka
      have hra := wok_getD HA.out.ok k
      generalize hxa : ua.getD k 0 = xa at hca hra
      have HXA := hid hxa
      clear hxa
      by_cases hkb : k < bn
      · obtain ⟨g2, off2, rfl⟩ := HB.out.addr (by omega)
        have hcb := (HB.out.below INV.out.bel (Nat.le_refl _)).cell k hkb
        have hrb := wok_getD HB.out.ok k
        generalize hxb : ub.getD k 0 = xb at hcb hrb
        have HXB := hid hxb
        clear hxb
        go_wp2
        go_roundw
        case rel =>
          obtain ⟨x, c', e1, e2, h1, h2, h3⟩ := sub_arith xa xb c hc1 hra hrb
          rw [e1, e2]
          exact ⟨k + 1, c', _, by omega, by simp, rfl, h1, INV.out.step hka h2 HXA.out HXB.out h3⟩
        case measure => simp [intOf] <;> omega
      · have hxb : ub.getD k 0 = 0 := by
          rw [List.getD_eq_getElem?_getD, List.getElem?_eq_none (by have := HB.out.len; omega)]; rfl
        have HXB := hid hxb
        clear hxb
        go_wp2
        go_roundw
        case rel =>
          obtain ⟨x, c', e1, e2, h1, h2, h3⟩ := sub_arith0 xa c hc1 hra
          rw [e1, e2]
          exact ⟨k + 1, c', _, by omega, by simp, rfl, h1, INV.out.step hka h2 HXA.out HXB.out h3⟩
        case measure => simp [intOf] <;> omega
    · obtain rfl : k = an := by omega
      have INV := hid inv
      clear inv
      go_wp2_with (go_at_call 151; refine (trim_own _ w.heap.size _ k rs INV.out.own INV.out.ok).mono ?_; rintro e w' ⟨⟨v', rfl, hnm⟩, rfl⟩)
      go_ret
      exact ⟨⟨v', rfl, by rw [← INV.out.fin HA.out.len (by have := HB.out.len; omega) HL.out]; exact hnm⟩, INV.out.bel⟩

theorem sub_nm (w : World) (va vb : Value) (a b : Nat) (ha : Nm w va a) (hb : Nm w vb b) (sa : Sm a) (hle : b ≤ a) :
    Calls Tryz.prog 148 #[va, vb] w (GivesNm w (a - b)) := by
  obtain ⟨ao, an, ac, ua, rfl, hra, hta, rfl, hla⟩ := ha.len sa
  have sb : Sm b := by unfold Sm at *; omega
  obtain ⟨bo, bn, bc, ub, rfl, hrb, htb, rfl, hlb⟩ := hb.len sb
  refine sub_any w ao bo an ac bn bc ua ub hra hrb (by omega) ?_ hle
  by_cases h : bn ≤ an
  · exact h
  · have := wv_lt_of_len hra.ok htb (by rw [hra.len, hrb.len]; omega)
    omega
end Go.Proofs.YthoiikkjjaldnaaGreatDoor

/- The walks of the methods of Int. -/
namespace Go.Proofs.YthoiikkjjaldnaaGreatDoor
set_option linter.unusedVariables false
set_option linter.unusedSimpArgs false
set_option maxRecDepth 100000
open Go.RowKit

/-- Block b is an Int, whatever it holds. -/
def IntBlk (w : World) (b : Nat) : Prop := ∃ x y, w.heap[b]? = some (.cells #[x, y] 80 (0, 0))

/-- Block b is an Int that reads as z. -/
def IntAt (w : World) (b : Nat) (z : Int) : Prop := ∃ v, w.heap[b]? = some (.cells #[.bool (decide (z < 0)), v] 80 (0, 0)) ∧ Nm w v z.natAbs

theorem IntAt.blk {w : World} {b : Nat} {z : Int} (h : IntAt w b z) : IntBlk w b := by
  obtain ⟨v, h1, _⟩ := h; exact ⟨_, _, h1⟩

theorem heap_lt {w : World} {b : Nat} {o : Obj} (h : w.heap[b]? = some o) : b < w.heap.size := by
  by_cases hc : b < w.heap.size
  · exact hc
  · rw [Array.getElem?_eq_none (by omega)] at h; cases h

theorem IntBlk.lt {w : World} {b : Nat} (h : IntBlk w b) : b < w.heap.size := by
  obtain ⟨x, y, h⟩ := h; exact heap_lt h
theorem IntAt.lt {w : World} {b : Nat} {z : Int} (h : IntAt w b z) : b < w.heap.size := h.blk.lt

theorem IntAt.cells {w : World} {b : Nat} {z : Int} (h : IntAt w b z) : ∃ v, w.cell? ⟨b, 0, none⟩ = some (.bool (decide (z < 0))) ∧ w.cell? ⟨b, 1, none⟩ = some v ∧ Nm w v z.natAbs := by
  obtain ⟨v, h1, h2⟩ := h
  exact ⟨v, by simp [World.cell?, h1], by simp [World.cell?, h1], h2⟩

/-- A number of words stays where only an Int's block is written. -/
theorem Nm.kept {w w' : World} {v : Value} {n : Nat} (h : Nm w v n) {b : Nat} (hb : IntBlk w b) (hg : w.grownBy w' (some b)) : Nm w' v n := by
  obtain ⟨ao, len, cap, ws, rfl, hr, ht, hn⟩ := h
  refine ⟨ao, len, cap, ws, rfl, hr.of_block fun a ha => hg.block _ (hr.lt a ha) ?_, ht, hn⟩
  intro he
  obtain ⟨_, cur, fz, hh, _⟩ := hr.cells a ha
  obtain ⟨x, y, hb⟩ := hb
  have := Option.some.inj he
  rw [this, hb] at hh
  simp at hh

theorem IntAt.kept {w w' : World} {c : Nat} {z : Int} (h : IntAt w c z) {b : Nat} (hb : IntBlk w b) (hg : w.grownBy w' (some b)) (hne : c ≠ b) : IntAt w' c z := by
  obtain ⟨v, h1, h2⟩ := h
  exact ⟨v, by rw [hg.block c (heap_lt h1) (by simpa using hne)]; exact h1, h2.kept hb hg⟩

theorem IntAt.below {w w' : World} {b : Nat} {z : Int} (h : IntAt w b z) {B : Nat} (hb : Below B w w') (hB : w.heap.size ≤ B) : IntAt w' b z := by
  obtain ⟨v, h1, h2⟩ := h
  exact ⟨v, by rw [hb.block b (by have := heap_lt h1; omega)]; exact h1, h2.below hb hB⟩
theorem IntBlk.below {w w' : World} {b : Nat} (h : IntBlk w b) {B : Nat} (hb : Below B w w') (hB : w.heap.size ≤ B) : IntBlk w' b := by
  obtain ⟨x, y, h1⟩ := h
  exact ⟨x, y, by rw [hb.block b (by have := heap_lt h1; omega)]; exact h1⟩
theorem IntBlk.kept {w w' : World} {c : Nat} (h : IntBlk w c) {b : Nat} (hg : w.grownBy w' (some b)) (hne : c ≠ b) : IntBlk w' c := by
  obtain ⟨x, y, h1⟩ := h
  exact ⟨x, y, by rw [hg.block c (heap_lt h1) (by simpa using hne)]; exact h1⟩

theorem grownBy_trans {a b c : World} {row : Option Nat} (h : a.grownBy b row) (k : b.grownBy c row) : a.grownBy c row :=
  ⟨k.os.trans h.os, k.tape.trans h.tape, k.output.trans h.output, Nat.le_trans h.size k.size, fun i hi hn => (k.block i (Nat.lt_of_lt_of_le hi h.size) hn).trans (h.block i hi hn)⟩
theorem grownBy_of_below {a b : World} {B : Nat} (h : Below B a b) (hB : a.heap.size ≤ B) (row : Option Nat) : a.grownBy b row :=
  ⟨h.os, h.tape, h.output, h.size, fun i hi _ => h.block i (by omega)⟩
theorem grownBy_drewN (w : World) (n : Nat) (row : Option Nat) : w.grownBy (w.drewN n) row := ⟨rfl, rfl, rfl, Nat.le_refl _, fun _ _ _ => rfl⟩
theorem below_of_grownBy {w0 w w' : World} {b : Nat} (h : Below w0.heap.size w0 w) (hg : w.grownBy w' (some b)) (hb : w0.heap.size ≤ b) : Below w0.heap.size w0 w' :=
  h.grown hg h.size (fun k hk => by cases hk; exact hb)

theorem Nm.drew {w : World} {v : Value} {n : Nat} (h : Nm w v n) : Nm w.drew v n := h.below (B := w.heap.size) ((Below.refl _ _).drew) (Nat.le_refl _)
theorem IntAt.drew {w : World} {b : Nat} {z : Int} (h : IntAt w b z) : IntAt w.drew b z := h.below (B := w.heap.size) ((Below.refl _ _).drew) (Nat.le_refl _)
theorem IntBlk.drew {w : World} {b : Nat} (h : IntBlk w b) : IntBlk w.drew b := h
theorem IntAt.drewN {w : World} {b : Nat} {z : Int} (h : IntAt w b z) (n : Nat) : IntAt (w.drewN n) b z := h.below (B := w.heap.size) ⟨rfl, rfl, rfl, Nat.le_refl _, fun _ _ => rfl⟩ (Nat.le_refl _)

/-- What a method answers that makes z in block b. -/
def Gives (w : World) (b : Nat) (z : Int) (e : Ending) (w' : World) : Prop := e = .returned (.pointer (some ⟨b, 0, none⟩)) ∧ IntAt w' b z ∧ w.grownBy w' (some b)

theorem grownBy_setCell (w : World) (b o : Nat) (v : Value) : w.grownBy (w.setCell ⟨b, o, none⟩ v) (some b) :=
  ⟨rfl, rfl, rfl, by simp [World.setCell], fun k _ hn => Below.heap_setCell w _ v k (by simpa using hn)⟩

def sgn (neg : Bool) (n : Nat) : Int := if neg then -(n : Int) else n

theorem sgn_natAbs (neg : Bool) (n : Nat) : (sgn neg n).natAbs = n := by unfold sgn; split <;> omega
theorem sgn_lt (neg : Bool) (n : Nat) : decide (sgn neg n < 0) = (neg && decide (0 < n)) := by
  unfold sgn
  cases neg <;> simp <;> omega
theorem sgn_self (z : Int) : sgn (decide (z < 0)) z.natAbs = z := by
  unfold sgn
  by_cases h : z < 0
  · simp [h]; omega
  · simp [h]; omega

theorem sgn_mul_pow (z : Int) (n : Nat) : sgn (decide (z < 0)) (z.natAbs * 2 ^ n) = z * 2 ^ n := by
  have h1 := sgn_self z
  unfold sgn at *
  conv => rhs; rw [← h1]
  split <;> simp [Int.natCast_mul, Int.neg_mul]

theorem setCells_int {w : World} {b : Nat} {x y : Value} (h : w.heap[b]? = some (.cells #[x, y] 80 (0, 0))) (x' y' : Value) :
    ((w.setCell ⟨b, 1, none⟩ y').setCell ⟨b, 0, none⟩ x').heap[b]? = some (.cells #[x', y'] 80 (0, 0)) := by
  have h2 := heap_setCell_same w b 1 #[x, y] 80 y' h
  have h3 := heap_setCell_same (w.setCell ⟨b, 1, none⟩ y') b 0 _ 80 x' h2
  rw [h3]
  simp

set_option maxHeartbeats 1000000 in
theorem give_any (w : World) (b : Nat) (neg : Bool) (v : Value) (n : Nat) (hb : IntBlk w b) (hv : Nm w v n) :
    Calls Tryz.prog 78 #[.pointer (some ⟨b, 0, none⟩), .bool neg, v] w (Gives w b (sgn neg n)) := by
  obtain ⟨x, y, hh⟩ := hb
  have hc0 : w.cell? ⟨b, 0, none⟩ = some x := by simp [World.cell?, hh]
  have hc1 : w.cell? ⟨b, 1, none⟩ = some y := by simp [World.cell?, hh]
  have hf0 : w.frozen? ⟨b, 0, none⟩ = false := by simp [World.frozen?, hh]
  have hf1 : w.frozen? ⟨b, 1, none⟩ = false := by simp [World.frozen?, hh]
  have HH := hid hh
  have HV := hid hv
  clear hh
  obtain ⟨ao, len, cap, ws, rfl, hr, ht, hn⟩ := hv
  have hlen := hr.lim.1
  have key : decide (sgn neg n < 0) = (neg && decide (0 < len)) := by
    rw [sgn_lt]
    congr 1
    have h1 := wv_zero_iff ht
    have h2 := hr.len
    by_cases h0 : len = 0
    · subst h0
      have : n = 0 := by rw [← hn, h1]; exact List.length_eq_zero_iff.1 h2
      simp [this]
    · have : n ≠ 0 := by rw [← hn]; intro h; rw [h1] at h; subst h; simp at h2; omega
      simp; omega
  have KEY := hid key
  clear hr ht hn key
  have fin : ∀ t : Bool, t = (neg && decide (0 < len)) → Gives w b (sgn neg n) (.returned (.pointer (some ⟨b, 0, none⟩))) ((w.setCell ⟨b, 1, none⟩ (.slice ao len cap)).setCell ⟨b, 0, none⟩ (.bool t)) := by
    intro t ht
    refine ⟨rfl, ⟨.slice ao len cap, ?_, ?_⟩, ?_⟩
    · rw [KEY.out, ← ht]
      exact setCells_int HH.out _ _
    · rw [sgn_natAbs]
      exact HV.out.kept ⟨x, y, HH.out⟩ (grownBy_trans (grownBy_setCell _ _ _ _) (grownBy_setCell _ _ _ _))
    · exact grownBy_trans (grownBy_setCell _ _ _ _) (grownBy_setCell _ _ _ _)
  have FIN := hid fin
  clear fin
  by_cases h0 : 0 < len
  · cases neg
    · go_enter Tryz.func78, Tryz.ntmps78
      go_wp2
      go_ret
      exact FIN.out false (by simp)
    · go_enter Tryz.func78, Tryz.ntmps78
      go_wp2
      go_ret
      exact FIN.out true (by simp [h0])
  · cases neg
    · go_enter Tryz.func78, Tryz.ntmps78
      go_wp2
      go_ret
      exact FIN.out false (by simp)
    · go_enter Tryz.func78, Tryz.ntmps78
      go_wp2
      go_ret
      exact FIN.out false (by simp [h0])

set_option maxHeartbeats 1000000 in
theorem Lsh_any (w : World) (b c : Nat) (z : Int) (n : Nat) (hb : IntBlk w b) (hc : IntAt w c z) (hs : Sm z.natAbs) (hn : n ≤ 1000) :
    Calls Tryz.prog 30 #[.pointer (some ⟨b, 0, none⟩), .pointer (some ⟨c, 0, none⟩), .int .u64 (n : Nat)] w (Gives w b (z * 2 ^ n)) := by
  obtain ⟨v, h0, h1, hv⟩ := hc.cells
  have HB := hid hb
  have HV := hid hv
  have hlt := hc.lt
  clear hb hv hc
  go_enter Tryz.func30, Tryz.ntmps30
  go_wp2_with fail
  go_region_with (first
    | (go_at_call 79; refine (left_any w.drew v z.natAbs n HV.out.drew hs hn).mono ?_; rintro e w1 ⟨⟨v', rfl, hnm⟩, hb⟩; have q0 := (Below.cell hb (p := ⟨c, 0, none⟩) hlt).trans h0; have q1 := hid hb; have q2 := hid hnm; clear hb hnm)
    | (go_at_call 78; refine (give_any _ b _ _ (z.natAbs * 2 ^ n) (HB.out.drew.below q1.out (Nat.le_refl _)) q2.out).mono ?_; rintro e w2 ⟨rfl, hI, hG⟩; have q4 := hid (And.intro hI hG); clear hI hG))
  all_goals
    go_wp2
    go_ret
    refine ⟨rfl, ?_, ?_⟩
    · have := q4.out.1
      rw [sgn_mul_pow] at this
      exact this
    · exact grownBy_trans (grownBy_of_below (Below.drew (Below.refl w.heap.size w)) (Nat.le_refl _) _) (grownBy_trans (grownBy_of_below q1.out (Nat.le_refl _) _) q4.out.2)
end Go.Proofs.YthoiikkjjaldnaaGreatDoor

/- The walks of SetInt64, NewInt, Uint64, Int64, Sign, Abs, Rsh. -/
namespace Go.Proofs.YthoiikkjjaldnaaGreatDoor
set_option linter.unusedVariables false
set_option linter.unusedSimpArgs false
set_option maxRecDepth 100000
open Go.RowKit

theorem sm_of_lt {n : Nat} (h : n < 340282366920938463463374607431768211456) : Sm n := by
  have : (340282366920938463463374607431768211456 : Nat) = 4294967296 ^ 4 := rfl
  have h2 : (4294967296 : Nat) ^ 4 ≤ 4294967296 ^ 60 := Nat.pow_le_pow_right (by decide) (by decide)
  unfold Sm; omega

theorem u64_neg {x : Int} (h1 : -9223372036854775808 ≤ x) (h2 : x < 0) : IntKind.u64.wrap (-(IntKind.u64.wrap x)) = -x := by
  have e : ∀ z, IntKind.u64.wrap z = z % 18446744073709551616 := by intro z; simp [IntKind.wrap, IntKind.signed, IntKind.bits]
  rw [e, e]; omega

set_option maxHeartbeats 1000000 in
theorem SetInt64_any (w : World) (b : Nat) (x : Int) (hb : IntBlk w b) (h1 : -9223372036854775808 ≤ x) (h2 : x ≤ 9223372036854775807) :
    Calls Tryz.prog 153 #[.pointer (some ⟨b, 0, none⟩), .int .i64 x] w (Gives w b x) := by
  have HB := hid hb
  clear hb
  have fin : ∀ w1 w2 v, GivesNm w x.natAbs (.returned v) w1 → Gives w1 b (sgn (decide (x < 0)) x.natAbs) (.returned (.pointer (some ⟨b, 0, none⟩))) w2 → Gives w b x (.returned (.pointer (some ⟨b, 0, none⟩))) w2 := by
    rintro w1 w2 v ⟨_, hbel⟩ ⟨_, hI, hG⟩
    rw [sgn_self] at hI
    exact ⟨rfl, hI, grownBy_trans (grownBy_of_below hbel (Nat.le_refl _) _) hG⟩
  have FIN := hid fin
  clear fin
  by_cases h0 : x < 0
  · have hw := u64_neg h1 h0
    have HW := hid hw
    clear hw
    go_enter Tryz.func153, Tryz.ntmps153
    go_wp2_with fail
    rw [HW.out]
    refine (words_any _ (-x) (by omega) (by omega)).mono ?_
    rintro e w1 ⟨⟨v', rfl, hnm⟩, hbel⟩
    rw [show (-x).toNat = x.natAbs from by omega] at hnm
    have q1 := hid hbel
    have q2 := hid hnm
    clear hnm hbel
    go_wp2_with (go_at_call 78; refine (give_any _ b _ _ x.natAbs (HB.out.below q1.out (Nat.le_refl _)) q2.out).mono ?_; rintro e w2 ⟨rfl, hI, hG⟩)
    go_ret
    refine FIN.out _ _ _ ⟨⟨_, rfl, q2.out⟩, q1.out⟩ ⟨rfl, ?_, hG⟩
    have hd : decide (x < 0) = true := by simpa using h0
    rw [hd]; exact hI
  · go_enter Tryz.func153, Tryz.ntmps153
    go_wp2_with (first
      | (go_at_call 146; refine (words_any _ x (by omega) (by omega)).mono ?_; rintro e w1 ⟨⟨v', rfl, hnm⟩, hbel⟩; have q1 := hid hbel; have q2 := hid hnm; clear hnm hbel)
      | (go_at_call 78; refine (give_any _ b _ _ x.toNat (HB.out.below q1.out (Nat.le_refl _)) q2.out).mono ?_; rintro e w2 ⟨rfl, hI, hG⟩))
    go_ret
    have e0 : x.toNat = x.natAbs := by omega
    rw [e0] at hI
    refine FIN.out _ _ _ ⟨⟨_, rfl, by rw [← e0]; exact q2.out⟩, q1.out⟩ ⟨rfl, ?_, hG⟩
    have hd : decide (x < 0) = false := by simp; omega
    rw [hd]; exact hI

/-- What a function answers that makes an Int in new memory. -/
def NewI (w : World) (z : Int) (e : Ending) (w' : World) : Prop := ∃ b, e = .returned (.pointer (some ⟨b, 0, none⟩)) ∧ w.heap.size ≤ b ∧ IntAt w' b z ∧ Below w.heap.size w w'

theorem IntBlk.new (w : World) (x y : Value) : IntBlk (w.alloc (.cells #[x, y] 80)) w.heap.size := ⟨x, y, heap_alloc_new w _⟩

set_option maxHeartbeats 1000000 in
theorem NewInt_any (w : World) (x : Int) (h1 : -9223372036854775808 ≤ x) (h2 : x ≤ 9223372036854775807) :
    Calls Tryz.prog 81 #[.int .i64 x] w (NewI w x) := by
  go_enter Tryz.func81, Tryz.ntmps81
  go_wp2_with (go_at_call 153; refine (SetInt64_any _ w.heap.size x (IntBlk.new w _ _) h1 h2).mono ?_; rintro e w1 ⟨rfl, hI, hG⟩)
  go_ret
  exact ⟨w.heap.size, rfl, Nat.le_refl _, hI, below_of_grownBy ((Below.refl _ _).alloc (Nat.le_refl _) _) hG (Nat.le_refl _)⟩

theorem Nm.cells {w : World} {v : Value} {n : Nat} (h : Nm w v n) (hn : n < 18446744073709551616) :
    ∃ ao len cap, v = .slice ao len cap ∧ ((len = 0 ∧ n = 0) ∨ (∃ g off, len = 1 ∧ ao = some ⟨g, off, none⟩ ∧ n < 4294967296 ∧ w.cell? ⟨g, off, none⟩ = some (.int .u32 (n : Nat))) ∨
      (∃ g off lo hi, len = 2 ∧ ao = some ⟨g, off, none⟩ ∧ lo < 4294967296 ∧ hi < 4294967296 ∧ n = lo + 4294967296 * hi ∧ w.cell? ⟨g, off, none⟩ = some (.int .u32 (lo : Nat)) ∧ w.cell? ⟨g, off + 1, none⟩ = some (.int .u32 (hi : Nat)))) := by
  obtain ⟨ao, len, cap, ws, rfl, hr, ht, rfl⟩ := h
  have hl : ws.length ≤ 2 := len_le_of_lt ht (n := 2) (by simpa using hn)
  have hlen := hr.len
  refine ⟨ao, len, cap, rfl, ?_⟩
  match ws, hlen, hr, ht, hn, hl with
  | [], hlen, hr, ht, hn, hl => exact .inl ⟨by simpa using hlen.symm, rfl⟩
  | [a], hlen, hr, ht, hn, hl =>
    obtain rfl : len = 1 := by simpa using hlen.symm
    obtain ⟨g, off, rfl⟩ := hr.addr (by omega)
    have hc := hr.cell 0 (by omega)
    have ha := (wok_cons.1 hr.ok).1
    exact .inr (.inl ⟨g, off, rfl, rfl, by simpa [wv] using ha, by simpa [wv] using hc⟩)
  | [a, b], hlen, hr, ht, hn, hl =>
    obtain rfl : len = 2 := by simpa using hlen.symm
    obtain ⟨g, off, rfl⟩ := hr.addr (by omega)
    have hc := hr.cell 0 (by omega)
    have hc1 := hr.cell 1 (by omega)
    have ha := (wok_cons.1 hr.ok).1
    have hb := (wok_cons.1 (wok_cons.1 hr.ok).2).1
    exact .inr (.inr ⟨g, off, a, b, rfl, rfl, ha, hb, by simp [wv], by simpa using hc, by simpa using hc1⟩)

theorem lohi {a b : Nat} (ha : a < 4294967296) (hb : b < 4294967296) : bits BinOp.or IntKind.u64 (a : Int) ((b : Int) * 4294967296) = ((a + 4294967296 * b : Nat) : Int) := by
  rw [show ((b : Int) * 4294967296) = ((b * 4294967296 : Nat) : Int) from by omega, u64_or_nat _ _ (by omega) (by omega), Nat.or_comm,
    nat_join 32 _ _ (by omega) (by omega), Nat.add_comm, Nat.mul_comm]

set_option maxHeartbeats 1000000 in
theorem Uint64_any (w : World) (c : Nat) (z : Int) (hc : IntAt w c z) (hz : z.natAbs < 18446744073709551616) :
    Calls Tryz.prog 149 #[.pointer (some ⟨c, 0, none⟩)] w fun e w' => e = .returned (.int .u64 (z.natAbs : Nat)) ∧ w = w' := by
  obtain ⟨v, h0, h1, hv⟩ := hc.cells
  obtain ⟨ao, len, cap, rfl, h⟩ := hv.cells hz
  clear hv hc
  rcases h with ⟨rfl, hn⟩ | ⟨g, off, rfl, rfl, hn, hc⟩ | ⟨g, off, lo, hi, rfl, rfl, hlo, hhi, hn, hc, hc2⟩
  · rw [hn]
    clear hn
    go_enter Tryz.func149, Tryz.ntmps149
    go_wp2
    go_ret
    exact ⟨rfl, rfl⟩
  · go_enter Tryz.func149, Tryz.ntmps149
    go_wp2
    go_ret
    exact ⟨rfl, rfl⟩
  · rw [hn]
    have e := lohi hlo hhi
    have E := hid e
    clear hn e
    go_enter Tryz.func149, Tryz.ntmps149
    go_wp2
    go_ret
    refine ⟨?_, rfl⟩
    rw [← E.out]
    rfl

theorem i64_of {z : Int} (h1 : -9223372036854775808 ≤ z) (h2 : z < 0) : wrap64 (-(wrap64 (z.natAbs : Nat))) = z := by
  unfold wrap64; omega

set_option maxHeartbeats 1000000 in
theorem Int64_any (w : World) (c : Nat) (z : Int) (hc : IntAt w c z) (h1 : -9223372036854775808 ≤ z) (h2 : z ≤ 9223372036854775807) :
    Calls Tryz.prog 75 #[.pointer (some ⟨c, 0, none⟩)] w fun e w' => e = .returned (.int .i64 z) ∧ w = w' := by
  have HC := hid hc
  obtain ⟨v, h0, _, _⟩ := hc.cells
  clear hc
  by_cases hz : z < 0
  · have hd : decide (z < 0) = true := by simpa using hz
    rw [hd] at h0
    clear hd
    have e := i64_of h1 hz
    have E := hid e
    clear e
    go_enter Tryz.func75, Tryz.ntmps75
    go_wp2_with (go_at_call 149; refine (Uint64_any _ c z HC.out (by omega)).mono ?_; rintro e w1 ⟨rfl, rfl⟩)
    go_ret
    refine ⟨?_, rfl⟩
    show Ending.returned (.int .i64 (wrap64 (-wrap64 (z.natAbs : Nat)))) = _
    rw [E.out]
  · have hd : decide (z < 0) = false := by simpa using hz
    rw [hd] at h0
    clear hd
    go_enter Tryz.func75, Tryz.ntmps75
    go_wp2_with (go_at_call 149; refine (Uint64_any _ c z HC.out (by omega)).mono ?_; rintro e w1 ⟨rfl, rfl⟩)
    go_ret
    refine ⟨?_, rfl⟩
    show Ending.returned (.int .i64 (z.natAbs : Nat)) = _
    rw [show ((z.natAbs : Nat) : Int) = z from by omega]

set_option maxHeartbeats 1000000 in
theorem Sign_any (w : World) (c : Nat) (z : Int) (hc : IntAt w c z) :
    Calls Tryz.prog 76 #[.pointer (some ⟨c, 0, none⟩)] w fun e w' => e = .returned (.int .i64 z.sign) ∧ w = w' := by
  obtain ⟨v, h0, h1, ao, len, cap, ws, rfl, hr, ht, hn⟩ := hc.cells
  have hlen := hr.len
  have hz := wv_zero_iff ht
  rw [hn] at hz
  have hlim := hr.lim.1
  clear hr ht hn hc
  by_cases hl : len = 0
  · subst hl
    have : z = 0 := by have := hz.2 (List.length_eq_zero_iff.1 hlen); omega
    subst this
    clear hz
    go_enter Tryz.func76, Tryz.ntmps76
    go_wp2
    go_ret
    exact ⟨rfl, rfl⟩
  · have hne : z ≠ 0 := by
      intro h; subst h
      have := hz.1 rfl
      subst this; simp at hlen; omega
    have hlb : ((len : Int) == 0) = false := by rw [beq_eq_false_iff_ne]; omega
    clear hz hlen
    rcases Int.lt_or_gt_of_ne hne with h | h
    · have hd : decide (z < 0) = true := by simpa using h
      rw [hd] at h0
      rw [Int.sign_eq_neg_one_of_neg h]
      clear hd
      go_enter Tryz.func76, Tryz.ntmps76
      go_wp2
      go_ret
      exact ⟨rfl, rfl⟩
    · have hd : decide (z < 0) = false := by simp; omega
      rw [hd] at h0
      rw [Int.sign_eq_one_of_pos h]
      clear hd
      go_enter Tryz.func76, Tryz.ntmps76
      go_wp2
      go_ret
      exact ⟨rfl, rfl⟩
end Go.Proofs.YthoiikkjjaldnaaGreatDoor

/- The walks of Set, Neg, Abs, Rsh. -/
namespace Go.Proofs.YthoiikkjjaldnaaGreatDoor
set_option linter.unusedVariables false
set_option linter.unusedSimpArgs false
set_option maxRecDepth 100000
open Go.RowKit

theorem twin_nm (w : World) (v : Value) (n : Nat) (h : Nm w v n) (hs : Sm n) : Calls Tryz.prog 204 #[v] w (GivesNm w n) := by
  obtain ⟨ao, len, cap, ws, rfl, hr, ht, rfl, hl⟩ := h.len hs
  refine (twin_any w ao len cap ws hr (by omega)).mono ?_
  rintro e w' ⟨v', rfl, hown, hg⟩
  obtain ⟨ao', cap', rfl, hr', _⟩ := Rd.owned hown hr.ok
  exact ⟨⟨_, rfl, ao', len, cap', ws, rfl, hr', ht, rfl⟩, (Below.refl _ _).grown hg (Nat.le_refl _) (fun k h => by cases h)⟩

set_option maxHeartbeats 2000000 in
theorem Set_any (w : World) (b c : Nat) (z : Int) (hb : IntBlk w b) (hc : IntAt w c z) (hs : Sm z.natAbs) :
    Calls Tryz.prog 209 #[.pointer (some ⟨b, 0, none⟩), .pointer (some ⟨c, 0, none⟩)] w (Gives w b z) := by
  obtain ⟨v, h0, h1, hv⟩ := hc.cells
  have HB := hid hb
  have HV := hid hv
  have hlt := hc.lt
  clear hb hv hc
  go_enter Tryz.func209, Tryz.ntmps209
  go_wp2_with fail
  go_region_with (first
    | (go_at_call 204; refine (twin_nm w.drew v z.natAbs HV.out.drew hs).mono ?_; rintro e w1 ⟨⟨v', rfl, hnm⟩, hb⟩; have q0 := (Below.cell hb (p := ⟨c, 0, none⟩) hlt).trans h0; have q1 := hid hb; have q2 := hid hnm; clear hb hnm)
    | (go_at_call 78; refine (give_any _ b _ _ z.natAbs (HB.out.drew.below q1.out (Nat.le_refl _)) q2.out).mono ?_; rintro e w2 ⟨rfl, hI, hG⟩; have q4 := hid (And.intro hI hG); clear hI hG))
  all_goals
    go_wp2
    go_ret
    refine ⟨rfl, ?_, ?_⟩
    · have := q4.out.1
      rw [sgn_self] at this
      exact this
    · exact grownBy_trans (grownBy_of_below (Below.drew (Below.refl w.heap.size w)) (Nat.le_refl _) _) (grownBy_trans (grownBy_of_below q1.out (Nat.le_refl _) _) q4.out.2)

theorem sgn_neg (z : Int) : sgn (!decide (z < 0)) z.natAbs = -z := by
  unfold sgn
  by_cases h : z < 0
  · simp [h]; omega
  · simp [h]; omega

set_option maxHeartbeats 2000000 in
theorem Neg_any (w : World) (b c : Nat) (z : Int) (hb : IntBlk w b) (hc : IntAt w c z) (hs : Sm z.natAbs) :
    Calls Tryz.prog 194 #[.pointer (some ⟨b, 0, none⟩), .pointer (some ⟨c, 0, none⟩)] w (Gives w b (-z)) := by
  obtain ⟨v, h0, h1, hv⟩ := hc.cells
  have HB := hid hb
  have HV := hid hv
  have hlt := hc.lt
  clear hb hv hc
  obtain ⟨t, ht⟩ : ∃ t, t = decide (z < 0) := ⟨_, rfl⟩
  rw [← ht] at h0
  have HT := hid ht
  clear ht
  go_enter Tryz.func194, Tryz.ntmps194
  go_wp2_with fail
  go_region_with (first
    | (go_at_call 204; refine (twin_nm w.drew v z.natAbs HV.out.drew hs).mono ?_; rintro e w1 ⟨⟨v', rfl, hnm⟩, hb⟩; have q0 := (Below.cell hb (p := ⟨c, 0, none⟩) hlt).trans h0; have q1 := hid hb; have q2 := hid hnm; clear hb hnm)
    | (go_at_call 78; refine (give_any _ b _ _ z.natAbs (HB.out.drew.below q1.out (Nat.le_refl _)) q2.out).mono ?_; rintro e w2 ⟨rfl, hI, hG⟩; have q4 := hid (And.intro hI hG); clear hI hG))
  all_goals
    go_wp2
    go_ret
    refine ⟨rfl, ?_, ?_⟩
    · have := q4.out.1
      rw [HT.out, sgn_neg] at this
      exact this
    · exact grownBy_trans (grownBy_of_below (Below.drew (Below.refl w.heap.size w)) (Nat.le_refl _) _) (grownBy_trans (grownBy_of_below q1.out (Nat.le_refl _) _) q4.out.2)

theorem Nm.one (w : World) : Nm (w.alloc (.cells #[.int .u32 1] 172)) (.slice (some ⟨w.heap.size, 0, none⟩) 1 1) 1 := by
  have hO := World.ownsRow_lit (base := w.heap.size) (e := 172) (size := 1) w #[.int .u32 ((1 : Nat) : Int)] 1 (Nat.le_refl _) (by unfold maxLen; omega) rfl
  obtain ⟨ao, cap, hv, hr, _⟩ := Rd.owned (ws := [1]) hO (by intro y hy; simp at hy; omega)
  injection hv with h1 h2 h3
  subst h1; subst h3
  exact ⟨_, 1, 1, [1], rfl, hr, by intro n hn; simp at hn; subst hn; decide, rfl⟩

theorem fdiv_neg {z : Int} (h : z < 0) (n : Nat) : z / 2 ^ n = -(((z.natAbs - 1) / 2 ^ n + 1 : Nat) : Int) := by
  have hp : (0 : Int) < 2 ^ n := Int.pow_pos (by decide)
  obtain ⟨m, rfl⟩ : ∃ m : Nat, z = -((m : Int) + 1) := ⟨z.natAbs - 1, by omega⟩
  have e1 : (-((m : Int) + 1)).natAbs - 1 = m := by omega
  rw [e1]
  have e2 : -((m : Int) + 1) / 2 ^ n = -((m : Int) / 2 ^ n) - 1 := by
    rw [show -((m : Int) + 1) = -(m : Int) - 1 from by omega]
    rw [Int.ediv_eq_iff_of_pos hp]
    have h1 := Int.mul_ediv_add_emod (m : Int) (2 ^ n)
    have h2 := Int.emod_nonneg (m : Int) (Int.ne_of_gt hp)
    have h3 := Int.emod_lt_of_pos (m : Int) hp
    generalize (m : Int) / 2 ^ n = q at *
    generalize (m : Int) % 2 ^ n = r at *
    generalize (2 : Int) ^ n = p at *
    have h4 : (-q - 1) * p = -(p * q) - p := by rw [Int.sub_mul, Int.neg_mul, Int.mul_comm q]; omega
    have h5 : (-q - 1 + 1) * p = -(p * q) := by rw [Int.sub_add_cancel, Int.neg_mul, Int.mul_comm q]
    first
      | (rw [h4, h5]; omega)
      | (constructor <;> (first | rw [h4] | rw [h5] | skip) <;> omega)
      | skip
  rw [e2]
  simp
  omega

end Go.Proofs.YthoiikkjjaldnaaGreatDoor

/- The walks of sum, Add, Sub. -/
namespace Go.Proofs.YthoiikkjjaldnaaGreatDoor
set_option linter.unusedVariables false
set_option linter.unusedSimpArgs false
set_option maxRecDepth 100000
open Go.RowKit

/-- What sum answers. -/
def Sums (w : World) (z : Int) (e : Ending) (w' : World) : Prop := ∃ neg v n, e = .returned (.tuple #[.bool neg, v]) ∧ Nm w' v n ∧ sgn neg n = z ∧ ∃ w1 k, w1 = w.drewN k ∧ Below w.heap.size w1 w'

theorem Sums.below {w w' : World} {z : Int} {e : Ending} (h : Sums w z e w') : Below w.heap.size w w' := by
  obtain ⟨_, _, _, _, _, _, w1, k, rfl, hb⟩ := h
  exact Below.trans (b := w.drewN k) ⟨rfl, rfl, rfl, Nat.le_refl _, fun _ _ => rfl⟩ hb

theorem below_drewN (w : World) (k : Nat) : Below w.heap.size w (w.drewN k) := ⟨rfl, rfl, rfl, Nat.le_refl _, fun _ _ => rfl⟩

set_option maxHeartbeats 1000000 in
theorem sum_any (w : World) (s t : Bool) (va vb : Value) (a b : Nat) (ha : Nm w va a) (hb : Nm w vb b) (sa : Sm a) (sb : Sm b) :
    Calls Tryz.prog 80 #[.bool s, va, .bool t, vb] w (Sums w (sgn s a + sgn t b)) := by
  have HA := hid ha
  have HB := hid hb
  have SA := hid sa
  have SB := hid sb
  clear ha hb sa sb
  by_cases hst : s = t
  · subst hst
    have fin : ∀ v w1, GivesNm w (a + b) (.returned v) w1 → Sums w (sgn s a + sgn s b) (.returned (.tuple #[.bool s, v])) w1 := by
      rintro v w1 ⟨⟨v', hv, hnm⟩, hbel⟩
      obtain rfl : v' = v := by injection hv with h; exact h.symm
      refine ⟨s, v', a + b, rfl, hnm, ?_, _, 0, rfl, hbel⟩
      unfold sgn; split <;> omega
    have FIN := hid fin
    clear fin
    have hb : (s == s) = true := by simp
    cases s
    all_goals
      go_enter Tryz.func80, Tryz.ntmps80
      go_wp2_with (go_at_call 145; refine (add_nm _ va vb a b HA.out HB.out SA.out SB.out).mono ?_; rintro e w1 ⟨⟨v1, rfl, hnm⟩, hb⟩; have q1 := hid (And.intro hnm hb); clear hb hnm)
      go_ret2
      exact FIN.out _ _ ⟨⟨_, rfl, q1.out.1⟩, q1.out.2⟩
  · by_cases hab : b ≤ a
    · have fin : ∀ v k w1, GivesNm (w.drewN k) (a - b) (.returned v) w1 → Sums w (sgn s a + sgn t b) (.returned (.tuple #[.bool s, v])) w1 := by
        rintro v k w1 ⟨⟨v', hv, hnm⟩, hbel⟩
        obtain rfl : v' = v := by injection hv with h; exact h.symm
        refine ⟨s, v', a - b, rfl, hnm, ?_, _, k, rfl, hbel⟩
        unfold sgn
        cases s <;> cases t <;> simp at * <;> omega
      have FIN := hid fin
      clear fin
      have hc : 0 ≤ cmpN a b := by unfold cmpN; split; omega; split <;> omega
      cases s <;> cases t <;> simp only [reduceCtorEq, not_true_eq_false, not_false_eq_true] at hst
      all_goals
        go_enter Tryz.func80, Tryz.ntmps80
        go_wp2_with (first
          | (go_at_call 152; refine (cmp_nm _ va vb a b HA.out HB.out SA.out SB.out).mono ?_; rintro e w1 ⟨rfl, k, rfl⟩)
          | (go_at_call 148; refine (sub_nm _ va vb a b (HA.out.below (below_drewN w k) (Nat.le_refl _)) (HB.out.below (below_drewN w k) (Nat.le_refl _)) SA.out hab).mono ?_; rintro e w1 ⟨⟨v1, rfl, hnm⟩, hb⟩; have q1 := hid (And.intro hnm hb); clear hb hnm))
        go_ret2
        exact FIN.out _ k _ ⟨⟨_, rfl, q1.out.1⟩, q1.out.2⟩
    · have fin : ∀ v k w1, GivesNm (w.drewN k) (b - a) (.returned v) w1 → Sums w (sgn s a + sgn t b) (.returned (.tuple #[.bool t, v])) w1 := by
        rintro v k w1 ⟨⟨v', hv, hnm⟩, hbel⟩
        obtain rfl : v' = v := by injection hv with h; exact h.symm
        refine ⟨t, v', b - a, rfl, hnm, ?_, _, k, rfl, hbel⟩
        unfold sgn
        cases s <;> cases t <;> simp at * <;> omega
      have FIN := hid fin
      clear fin
      have hc : cmpN a b < 0 := by rw [cmpN_lt (by omega)]; omega
      have hba : a ≤ b := by omega
      cases s <;> cases t <;> simp only [reduceCtorEq, not_true_eq_false, not_false_eq_true] at hst
      all_goals
        go_enter Tryz.func80, Tryz.ntmps80
        go_wp2_with (first
          | (go_at_call 152; refine (cmp_nm _ va vb a b HA.out HB.out SA.out SB.out).mono ?_; rintro e w1 ⟨rfl, k, rfl⟩)
          | (go_at_call 148; refine (sub_nm _ vb va b a (HB.out.below (below_drewN w k) (Nat.le_refl _)) (HA.out.below (below_drewN w k) (Nat.le_refl _)) SB.out hba).mono ?_; rintro e w1 ⟨⟨v1, rfl, hnm⟩, hb⟩; have q1 := hid (And.intro hnm hb); clear hb hnm))
        go_ret2
        exact FIN.out _ k _ ⟨⟨_, rfl, q1.out.1⟩, q1.out.2⟩

end Go.Proofs.YthoiikkjjaldnaaGreatDoor

/- The walks of Sub. -/
namespace Go.Proofs.YthoiikkjjaldnaaGreatDoor
set_option linter.unusedVariables false
set_option linter.unusedSimpArgs false
set_option maxRecDepth 100000
open Go.RowKit

set_option maxHeartbeats 2000000 in
theorem Sub_far (w : World) (b c d : Nat) (x y : Int) (hb : IntBlk w b) (hc : IntAt w c x) (hd : IntAt w d y) (sx : Sm x.natAbs) (sy : Sm y.natAbs) (hbc : b ≠ c) (hbd : b ≠ d) :
    Calls Tryz.prog 74 #[.pointer (some ⟨b, 0, none⟩), .pointer (some ⟨c, 0, none⟩), .pointer (some ⟨d, 0, none⟩)] w (Gives w b (x - y)) := by
  obtain ⟨vx, h0, h1, hvx⟩ := hc.cells
  obtain ⟨vy, k0, k1, hvy⟩ := hd.cells
  have hlc := hc.lt
  have hld := hd.lt
  have hlb := hb.lt
  have HB := hid hb
  have HX := hid hvx
  have HY := hid hvy
  have NC := hid hbc
  have ND := hid hbd
  clear hb hvx hvy hc hd hbc hbd
  obtain ⟨s, hs⟩ : ∃ s, s = decide (x < 0) := ⟨_, rfl⟩
  rw [← hs] at h0
  have HSX := hid hs
  clear hs
  obtain ⟨t, ht⟩ : ∃ t, t = decide (y < 0) := ⟨_, rfl⟩
  rw [← ht] at k0
  have HSY := hid ht
  clear ht
  go_enter Tryz.func74, Tryz.ntmps74
  go_wp2_with fail
  go_region_held3 (fun w' => w'.cell? ⟨c, 0, none⟩ = some (.bool s) ∧ w'.cell? ⟨c, 1, none⟩ = some vx ∧ w'.cell? ⟨d, 0, none⟩ = some (.bool t) ∧ w'.cell? ⟨d, 1, none⟩ = some vy) (go_keep)
    (first
    | (go_at_call 80; refine (sum_any w.drew s (!t) vx vy _ _ HX.out.drew HY.out.drew sx sy).mono ?_; rintro e w1 ⟨neg, v1, n1, rfl, hnm, hz, hw'⟩; have hw := Sums.below ⟨neg, v1, n1, rfl, hnm, hz, hw'⟩; clear hw'; have q1 := hid hw; have q2 := hid hnm; have q3 := hid hz; have c0 := (Below.cell hw (p := ⟨c, 0, none⟩) hlc).trans h0; have c1 := (Below.cell hw (p := ⟨c, 1, none⟩) hlc).trans h1; have d0 := (Below.cell hw (p := ⟨d, 0, none⟩) hld).trans k0; have d1 := (Below.cell hw (p := ⟨d, 1, none⟩) hld).trans k1; clear hnm hz hw)
    | (go_at_call 78; refine (give_any _ b _ _ n1 (HB.out.drew.below q1.out (Nat.le_refl _)) q2.out).mono ?_; rintro e w2 ⟨rfl, hI, hG⟩; have q4 := hid (And.intro hI hG); have c0' := (World.grownBy.cell hG c0 (fun h => NC.out (Option.some.inj h).symm)); have c1' := (World.grownBy.cell hG c1 (fun h => NC.out (Option.some.inj h).symm)); have d0' := (World.grownBy.cell hG d0 (fun h => ND.out (Option.some.inj h).symm)); have d1' := (World.grownBy.cell hG d1 (fun h => ND.out (Option.some.inj h).symm)); clear hI hG))
  all_goals
    go_wp2
    go_ret
    refine ⟨rfl, ?_, ?_⟩
    · have h1 := q4.out.1
      have h2 := q3.out
      rw [HSX.out, HSY.out] at h2
      rw [sgn_self, sgn_neg, ← Int.sub_eq_add_neg] at h2
      rw [h2] at h1
      exact h1
    · exact grownBy_trans (grownBy_of_below (Below.drew (Below.refl w.heap.size w)) (Nat.le_refl _) _) (grownBy_trans (grownBy_of_below q1.out (Nat.le_refl _) _) q4.out.2)

end Go.Proofs.YthoiikkjjaldnaaGreatDoor
