/- Texts that the law rests on, laid together: Mem. -/
import Derived.Test.YthoiikkjjaldnaaDoorRows
import Derived.WalkKit
import Derived.WalkLawsBesides
import Derived.Below
import Derived.Carry
import Derived.ChangeSlices
import Derived.SizedLaws
import Derived.Laws.OwnMore
import Derived.Laws.Rows
import Derived.Deep.AppendLies
import Derived.Deep.Draws
import Derived.Maps.AppendAt
import Derived.RegionTactic
import Derived.OwnWalk
/- Words for memory: slices, blocks and aggregates of numbers; what an argument holds. -/
namespace Go.Proofs.YthoiikkjjaldnaaDoor
set_option linter.unusedVariables false
set_option linter.unusedSimpArgs false
set_option maxRecDepth 100000
open Go.RowKit

/-! Numbers as cells. -/
def ints (xs : List Int) : List Value := xs.map (Value.int .i64)
/-- Numbers as an aggregate's cells. -/
def agi (xs : List Int) : Array Value := (ints xs).toArray
theorem ints_len (xs : List Int) : (ints xs).length = xs.length := by simp [ints]
theorem agi_size (xs : List Int) : (agi xs).size = xs.length := by simp [agi, ints]
theorem ints_get (xs : List Int) (k : Nat) (h : k < xs.length) : (ints xs)[k]? = some (.int .i64 (xs.getD k 0)) := by
  simp [ints, h]
theorem agi_get (xs : List Int) (k : Nat) (h : k < xs.length) : (agi xs)[k]? = some (.int .i64 (xs.getD k 0)) := by
  simp [agi, ints, h]
theorem agi_set (xs : List Int) (k : Nat) (v : Int) : (agi xs).setIfInBounds k (.int .i64 v) = agi (xs.set k v) := by
  simp [agi, ints, List.map_set]
theorem ints_one (xs : List Int) : ∀ u ∈ ints xs, u.oneCell' = true := ints_oneCell .i64 xs
theorem ints_append (xs ys : List Int) : ints xs ++ ints ys = ints (xs ++ ys) := by simp [ints]
/-- Numbers of 64 bits. -/
def W64 (xs : List Int) : Prop := ∀ x ∈ xs, -9223372036854775808 ≤ x ∧ x ≤ 9223372036854775807
theorem W64.at_ {xs : List Int} (h : W64 xs) (k : Nat) : -9223372036854775808 ≤ xs.getD k 0 ∧ xs.getD k 0 ≤ 9223372036854775807 := by
  rw [List.getD_eq_getElem?_getD]
  cases hk : xs[k]? with
  | none => simp
  | some x => simpa using h x (List.mem_of_getElem? hk)

/-! A slice that reads as a list, nil let in. -/
theorem block_of_add (a : Addr) (n : Nat) : (a.add n).block = a.block := by unfold Addr.add; split <;> rfl
theorem add_of_add (a : Addr) (i j : Nat) : (a.add i).add j = a.add (i + j) := by
  unfold Addr.add
  by_cases hi : i = 0 <;> by_cases hj : j = 0 <;> simp [hi, hj, Nat.add_assoc]
theorem add_zero' (g i : Nat) : (⟨g, 0, none⟩ : Addr).add i = ⟨g, i, none⟩ := by
  unfold Addr.add; split <;> simp_all

def Reads (w : World) (B size : Nat) (A : Option Addr) (n : Nat) (xs : List Value) : Prop :=
  xs.length = n * size ∧ (0 < n → ∃ ad, A = some ad ∧ ad.block < B ∧ ∀ j u, xs[j]? = some u → w.cell? (ad.add j) = some u)

section
variable {w w' : World} {B B' size n : Nat} {A : Option Addr} {xs : List Value}
theorem Reads.none_ : Reads w B size A 0 [] := ⟨by simp, fun h => absurd h (by omega)⟩
theorem Reads.keep (h : Reads w B size A n xs) (hk : ∀ p : Addr, p.block < B → w'.cell? p = w.cell? p) : Reads w' B size A n xs :=
  ⟨h.1, fun hn => by
    obtain ⟨ad, e, hb, hc⟩ := h.2 hn
    exact ⟨ad, e, hb, fun j u hu => (hk _ (by rw [block_of_add]; exact hb)).trans (hc j u hu)⟩⟩
theorem Reads.more (h : Reads w B size A n xs) (hB : B ≤ B') : Reads w B' size A n xs :=
  ⟨h.1, fun hn => by
    obtain ⟨ad, e, hb, hc⟩ := h.2 hn
    exact ⟨ad, e, by omega, hc⟩⟩
theorem Reads.below (h : Reads w B size A n xs) (hb : Below B w w') : Reads w' B size A n xs := h.keep fun _ hp => hb.cell hp
theorem Reads.cut (h : Reads w B size A n xs) {k cap : Nat} (hk : k ≤ n) (hc : n ≤ cap) :
    Reads w B size (if cap = k then A else A.map (·.add (k * size))) (n - k) (xs.drop (k * size)) := by
  refine ⟨by rw [List.length_drop, h.1, Nat.sub_mul], fun hn => ?_⟩
  obtain ⟨ad, rfl, hb, hcell⟩ := h.2 (by omega)
  rw [if_neg (by omega)]
  refine ⟨ad.add (k * size), rfl, by rw [block_of_add]; exact hb, fun j u hu => ?_⟩
  rw [add_of_add]
  exact hcell _ u (by rw [← hu, List.getElem?_drop])
theorem Reads.take (h : Reads w B size A n xs) {k : Nat} (hk : k ≤ n) : Reads w B size A k (xs.take (k * size)) := by
  have h1 := h.1
  refine ⟨?_, fun hn => ?_⟩
  · rw [List.length_take, h1]; exact Nat.min_eq_left (Nat.mul_le_mul_right _ hk)
  · obtain ⟨ad, rfl, hb, hcell⟩ := h.2 (by omega)
    refine ⟨ad, rfl, hb, fun j u hu => hcell j u ?_⟩
    rw [List.getElem?_take] at hu
    split at hu
    · exact hu
    · cases hu
theorem Reads.of_own {base : Nat} {e : TypeId} {c : Nat} (h : w.ownsRow base e size (.slice A n c) n xs) : Reads w w.heap.size size A n xs := by
  refine ⟨h.1, fun hn => ?_⟩
  obtain ⟨g, cap, hv, _, hlt⟩ := h.form hn
  have hA : A = some ⟨g, 0, none⟩ := by injection hv
  subst hA
  exact ⟨_, rfl, hlt, h.cells (g := g) rfl⟩
end

/-- A slice of numbers. -/
def Rs (w : World) (B : Nat) (A : Option Addr) (xs : List Int) : Prop := Reads w B 1 A xs.length (ints xs)
section
variable {w w' : World} {B B' : Nat} {A : Option Addr} {xs : List Int}
theorem Rs.at_ {k : Nat} (h : Rs w B A xs) (hk : k < xs.length) : ∃ ad, A = some ad ∧ ad.block < B ∧ w.cell? (ad.add k) = some (.int .i64 (xs.getD k 0)) := by
  obtain ⟨ad, e, hb, hc⟩ := h.2 (by omega)
  exact ⟨ad, e, hb, hc k _ (ints_get xs k hk)⟩
theorem Rs.ad (h : Rs w B A xs) (hk : 0 < xs.length) : ∃ ad, A = some ad ∧ ad.block < B ∧ ∀ k, k < xs.length → w.cell? (ad.add k) = some (.int .i64 (xs.getD k 0)) := by
  obtain ⟨ad, e, hb, hc⟩ := h.2 hk
  exact ⟨ad, e, hb, fun k hk => hc k _ (ints_get xs k hk)⟩
theorem Rs.below (h : Rs w B A xs) (hb : Below B w w') : Rs w' B A xs := Reads.below h hb
theorem Rs.below' (h : Rs w B A xs) (hB : B ≤ B') (hb : Below B' w w') : Rs w' B A xs := Reads.below h (hb.mono hB)
theorem Rs.more (h : Rs w B A xs) (hB : B ≤ B') : Rs w B' A xs := Reads.more h hB
theorem Rs.nil : Rs w B A [] := Reads.none_
theorem Rs.drop (h : Rs w B A xs) {k cap : Nat} (hk : k ≤ xs.length) (hc : xs.length ≤ cap) : Rs w B (if cap = k then A else A.map (·.add k)) (xs.drop k) := by
  have h1 := Reads.cut h hk hc
  simp only [Nat.mul_one] at h1
  unfold Rs
  rw [List.length_drop]
  have e : ints (xs.drop k) = (ints xs).drop k := by simp [ints, List.map_drop]
  rw [e]; exact h1
theorem Rs.take (h : Rs w B A xs) {k : Nat} (hk : k ≤ xs.length) : Rs w B A (xs.take k) := by
  have h1 := Reads.take h hk
  simp only [Nat.mul_one] at h1
  unfold Rs
  rw [List.length_take, Nat.min_eq_left hk]
  have e : ints (xs.take k) = (ints xs).take k := by simp [ints, List.map_take]
  rw [e]; exact h1
end

/-- A slice that a call made: a row of its own of these numbers. -/
def Own (w : World) (base : Nat) (A : Option Addr) (c : Nat) (xs : List Int) : Prop := w.ownsRow base 3 1 (.slice A xs.length c) xs.length (ints xs)
section
variable {w w' : World} {base base' : Nat} {A : Option Addr} {c : Nat} {xs : List Int}
theorem Own.reads (h : Own w base A c xs) : Rs w w.heap.size A xs := Reads.of_own h
theorem Own.nil : Own w base none 0 [] := World.ownsRow_nil w base _ _
theorem Own.lt (h : Own w base A c xs) : ∀ a, A = some a → base ≤ a.block ∧ a.block < w.heap.size := fun a ha => by
  subst ha
  exact World.ownsRow.lt h a.block rfl
theorem Own.cap (h : Own w base A c xs) : xs.length ≤ c ∧ c ≤ 9223372036854775807 := by
  rcases h.2 with ⟨hv, hn⟩ | ⟨g, cap, cur, hv, hb, hg, h1, h2, _⟩
  · injection hv with _ _ hc
    omega
  · injection hv with _ _ hc
    unfold maxLen at h2
    omega
theorem Own.below (h : Own w base A c xs) (hb : Below w.heap.size w w') : Own w' base A c xs :=
  World.ownsRow.kept h (row := none) ⟨hb.os, hb.tape, hb.output, hb.size, fun k hk _ => hb.block k hk⟩ (by cases A <;> simp [Value.ownBlock])
theorem Own.kept {row : Option Nat} (h : Own w base A c xs) (hg : w.grownBy w' row) (hne : ∀ a, A = some a → some a.block ≠ row) : Own w' base A c xs :=
  World.ownsRow.kept h hg (by
    cases A with
    | none => exact .inl rfl
    | some a => exact .inr (hne a rfl))
theorem Own.more (h : Own w base A c xs) (hb : base' ≤ base) : Own w base' A c xs := by
  refine ⟨h.1, ?_⟩
  rcases h.2 with hn | ⟨g, cap, cur, hv, hbb, rest⟩
  · exact .inl hn
  · exact .inr ⟨g, cap, cur, hv, by omega, rest⟩
theorem Own.alloc (h : Own w base A c xs) (o : Obj) : Own (w.alloc o) base A c xs := World.ownsRow.alloc h o
theorem Own.drew (h : Own w base A c xs) : Own w.drew base A c xs := h
theorem Own.drewN (h : Own w base A c xs) (n : Nat) : Own (w.drewN n) base A c xs := h
/-- An address, where there is a number. -/
theorem Own.form (h : Own w base A c xs) (hn : 0 < xs.length) : ∃ g cap cur, A = some ⟨g, 0, none⟩ ∧ base ≤ g ∧ g < w.heap.size ∧ w.heap[g]? = some (.cells cur 3 (0, 0)) ∧ c = cap ∧ xs.length ≤ cap ∧ cap ≤ maxLen ∧ cur.size = cap ∧ cur.toList.take xs.length = ints xs := by
  rcases h.2 with ⟨_, h0⟩ | ⟨g, cap, cur, hv, hb, hg, h1, h2, h3, h4⟩
  · omega
  · injection hv with hA _ hc
    exact ⟨g, cap, cur, hA, hb, (Array.getElem?_eq_some_iff.1 hg).1, hg, hc, h1, h2, by simpa using h3, by simpa using h4⟩
/-- A number stored. -/
theorem Own.set_ {g : Nat} (h : Own w base (some ⟨g, 0, none⟩) c xs) (k : Nat) (hk : k < xs.length) (x : Int) : Own (w.setCell ⟨g, k, none⟩ (.int .i64 x)) base (some ⟨g, 0, none⟩) c (xs.set k x) := by
  have h1 := World.ownsRow.stored (g := g) (cap := c) h k (.int .i64 x)
  unfold Own
  rw [List.length_set]
  have e : ints (xs.set k x) = (ints xs).set k (.int .i64 x) := by simp [ints, List.map_set]
  rw [e]; exact h1.1
theorem Own.cell {g : Nat} (h : Own w base (some ⟨g, 0, none⟩) c xs) (k : Nat) (hk : k < xs.length) : w.cell? ⟨g, k, none⟩ = some (.int .i64 (xs.getD k 0)) := by
  have h1 := World.ownsRow.cellAt (g := g) (cap := c) h k (by omega)
  rw [h1]; exact ints_get xs k hk
theorem Own.frozen {g : Nat} (h : Own w base (some ⟨g, 0, none⟩) c xs) (k : Nat) : w.frozen? ⟨g, k, none⟩ = false := World.ownsRow.frozenAt h k
end

/-! A block known whole. -/
def Blk (w : World) (g : Nat) (t : TypeId) (cs : Array Value) : Prop := w.heap[g]? = some (.cells cs t (0, 0))
section
variable {w w' : World} {g : Nat} {t : TypeId} {cs : Array Value}
theorem Blk.lt (h : Blk w g t cs) : g < w.heap.size := by
  rcases Nat.lt_or_ge g w.heap.size with hlt | hge
  · exact hlt
  · unfold Blk at h; rw [Array.getElem?_eq_none hge] at h; cases h
theorem Blk.cell (h : Blk w g t cs) (i : Nat) : w.cell? ⟨g, i, none⟩ = cs[i]? := cell_of_row w g i cs t (0, 0) h
theorem Blk.frozen (h : Blk w g t cs) (i : Nat) : w.frozen? ⟨g, i, none⟩ = false := by
  unfold Blk at h
  simp [World.frozen?, h]
theorem Blk.new (w : World) (t : TypeId) (cs : Array Value) : Blk (w.alloc (.cells cs t)) w.heap.size t cs := heap_alloc_new w _
theorem Blk.drew (h : Blk w g t cs) : Blk w.drew g t cs := h
theorem Blk.drewN (h : Blk w g t cs) (n : Nat) : Blk (w.drewN n) g t cs := h
theorem Blk.alloc (h : Blk w g t cs) (o : Obj) : Blk (w.alloc o) g t cs := (Below.heap_alloc w o g h.lt).trans h
theorem Blk.set_ (h : Blk w g t cs) (i : Nat) (u : Value) : Blk (w.setCell ⟨g, i, none⟩ u) g t (cs.setIfInBounds i u) := by
  unfold Blk at h ⊢
  simp [World.setCell, Array.getElem?_modify, h]
theorem Blk.far (h : Blk w g t cs) {p : Addr} (hp : g ≠ p.block) (u : Value) : Blk (w.setCell p u) g t cs := (Below.heap_setCell w p u g hp).trans h
theorem Blk.below {B : Nat} (h : Blk w g t cs) (hb : Below B w w') (hg : g < B) : Blk w' g t cs := (hb.block g hg).trans h
theorem Blk.below' (h : Blk w g t cs) (hb : Below w.heap.size w w') : Blk w' g t cs := (hb.block g h.lt).trans h
theorem Blk.grown {row : Option Nat} (h : Blk w g t cs) (hb : w.grownBy w' row) (hg : some g ≠ row) : Blk w' g t cs := (hb.block g h.lt hg).trans h
theorem Blk.ne_ {g' : Nat} {t' : TypeId} {cs' : Array Value} (h : Blk w g t cs) (h' : Blk w g' t' cs') (hne : t ≠ t') : g ≠ g' := by
  rintro rfl
  unfold Blk at h h'
  rw [h] at h'
  injection h' with h'
  injection h' with _ ht
  exact hne ht
end

/-- A block of numbers. -/
def IB (w : World) (g : Nat) (t : TypeId) (xs : List Int) : Prop := Blk w g t (agi xs)
section
variable {w w' : World} {g : Nat} {t : TypeId} {xs : List Int}
theorem IB.cell (h : IB w g t xs) (i : Nat) (hi : i < xs.length) : w.cell? ⟨g, i, none⟩ = some (.int .i64 (xs.getD i 0)) := (Blk.cell h i).trans (agi_get xs i hi)
theorem IB.set_ (h : IB w g t xs) (i : Nat) (x : Int) : IB (w.setCell ⟨g, i, none⟩ (.int .i64 x)) g t (xs.set i x) := by
  have h1 := Blk.set_ h i (.int .i64 x)
  rw [agi_set] at h1
  exact h1
theorem IB.new (w : World) (t : TypeId) (xs : List Int) : IB (w.alloc (.cells (agi xs) t)) w.heap.size t xs := Blk.new w t _
end

theorem get_set_same (xs : List Int) (k : Nat) (v : Int) (h : k < xs.length) : (xs.set k v).getD k 0 = v := by simp [h]
theorem get_set_other (xs : List Int) {k j : Nat} (v : Int) (h : k ≠ j) : (xs.set k v).getD j 0 = xs.getD j 0 := by
  simp [h]
theorem list_ext {xs ys : List Int} (hl : xs.length = ys.length) (h : ∀ k, k < xs.length → xs.getD k 0 = ys.getD k 0) : xs = ys := by
  apply List.ext_getElem hl
  intro k h1 h2
  have := h k h1
  simpa [List.getD_eq_getElem?_getD, h1, h2] using this

/-! What an argument holds. -/
section
variable {P : Program} {w : World} {r : Reach} {b : Nat} {t : TypeId} {v : Value}
theorem range_i64 {n : Int} (h : IntKind.i64.has n) : -9223372036854775808 ≤ n ∧ n ≤ 9223372036854775807 := by
  have h1 := h.1
  have h2 := h.2
  simp [IntKind.min, IntKind.max, IntKind.signed, IntKind.bits] at h1 h2
  omega
def isAggD : TypeDesc → Bool
  | .struct _ => true
  | .array _ _ => true
  | _ => false
end

section
open Go.ChangeShapes
variable {H : Type} {enc : TypeId × Value → H} {P : Program} {w : World}

theorem value_slice {P : Program} {w : World} {r : Reach} {b : Nat} {t e : TypeId} {v : Value} (ht : P.underlying t = some (.slice e)) (h : Value.okWide P w r b t v) : ∃ A n c, v = .slice A n c := by
  unfold Value.okWide at h
  simp only [ht] at h
  unfold Cell.okWide at h
  simp only [ht] at h
  unfold Cell.ok at h
  simp only [ht] at h
  split at h <;> simp_all

/-- The arguments read behind a call as they did before it. -/
theorem argsStay {W W' : World} (hl : laidOutB P = true) (hb : Below W.heap.size W W') : ∀ {ts : List TypeId} {vs : List Value} {ds : List (DataW H)} {ps : List MemPlace}, (∀ t ∈ ts, P.readableRec t = true ∧ t < P.types.size) →
    DataW.TrodAll enc P W 0 (fun _ => true) true ts vs ds ps → (∀ x ∈ ps, x.block < W.heap.size) → DataW.TrodAll enc P W' 0 (fun b => decide (b < W.heap.size)) true ts vs ds ps
  | [], [], [], _, _, h, _ => h
  | t :: _, _ :: _, _ :: _, _, hT, ⟨p, q, h1, h2, e⟩, hs =>
    ⟨p, q, Below.trod hl (hT t (List.mem_cons.2 (Or.inl rfl))).1 (hT t (List.mem_cons.2 (Or.inl rfl))).2 h1 hb (fun x hx => hs x (by rw [e]; exact List.mem_append_left _ hx)),
      argsStay hl hb (fun t ht => hT t (List.mem_cons.2 (Or.inr ht))) h2 (fun x hx => hs x (by rw [e]; exact List.mem_append_right _ hx)), e⟩
end
end Go.Proofs.YthoiikkjjaldnaaDoor
