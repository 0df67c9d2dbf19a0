/- Slices of arrays of four numbers. -/
import Derived.Test.YtnbenmpjpogldaaDoorPush
import Derived.Test.YtnbenmpjpogldaaDoorRow
import Derived.Deep.MidRow
namespace Go.Proofs.YtnbenmpjpogldaaDoor
set_option linter.unusedVariables false
set_option linter.unusedSimpArgs false
set_option maxRecDepth 100000
open Go.RowKit

def cel4 (l : List (List Int)) : List Value := l.flatMap ints
theorem cel4_len {l : List (List Int)} (h : ∀ x ∈ l, x.length = 4) : (cel4 l).length = l.length * 4 := by
  induction l with
  | nil => rfl
  | cons x l ih =>
    have h1 := ih fun y hy => h y (List.mem_cons_of_mem _ hy)
    have h2 := h x (List.mem_cons_self ..)
    unfold cel4 at *
    rw [List.flatMap_cons, List.length_append, h1, ints_len, h2, List.length_cons]
    omega
theorem cel4_snoc (l : List (List Int)) (x : List Int) : cel4 l ++ ints x = cel4 (l ++ [x]) := by
  unfold cel4
  rw [List.flatMap_append]
  simp
theorem cel4_get : ∀ {l : List (List Int)} (_ : ∀ x ∈ l, x.length = 4) (i j : Nat) (_ : i < l.length) (_ : j < 4), (cel4 l)[4 * i + j]? = (ints (l.getD i []))[j]?
  | [], _, i, j, hi, _ => by simp at hi
  | x :: l, h, 0, j, _, hj => by
    have h2 := h x (List.mem_cons_self ..)
    unfold cel4
    rw [List.flatMap_cons, List.getElem?_append_left (by rw [ints_len]; omega)]
    simp
  | x :: l, h, i + 1, j, hi, hj => by
    have h2 := h x (List.mem_cons_self ..)
    have ih := cel4_get (l := l) (fun y hy => h y (List.mem_cons_of_mem _ hy)) i j (by simpa using hi) hj
    unfold cel4 at *
    rw [List.flatMap_cons, List.getElem?_append_right (by rw [ints_len]; omega), ints_len, h2, show 4 * (i + 1) + j - 4 = 4 * i + j by omega, ih]
    simp
/-- A slice of arrays that a call made. -/
def Own4 (w : World) (base : Nat) (A : Option Addr) (c : Nat) (l : List (List Int)) : Prop := w.ownsRow base 23 4 (.slice A l.length c) l.length (cel4 l) ∧ ∀ x ∈ l, x.length = 4
theorem infoI4 : (Tryd.prog.info? 23).map (fun i => (i.zero, i.size, i.bytes)) = some (some (.agg #[.int .i64 0, .int .i64 0, .int .i64 0, .int .i64 0]), 4, 32) := by kernel_rfl
section
variable {w w' : World} {base c : Nat} {A : Option Addr} {l : List (List Int)}
theorem Own4.nil : Own4 w base none 0 [] := ⟨World.ownsRow_nil w base _ _, fun x hx => by simp at hx⟩
theorem Own4.lt (h : Own4 w base A c l) : ∀ a, A = some a → base ≤ a.block ∧ a.block < w.heap.size := fun a ha => by
  subst ha
  exact World.ownsRow.lt h.1 a.block rfl
theorem Own4.below (h : Own4 w base A c l) (hb : Below w.heap.size w w') : Own4 w' base A c l :=
  ⟨World.ownsRow.kept h.1 (row := none) ⟨hb.os, hb.tape, hb.output, hb.size, fun k hk _ => hb.block k hk⟩ (by cases A <;> simp [Value.ownBlock]), h.2⟩
theorem Own4.kept {row : Option Nat} (h : Own4 w base A c l) (hg : w.grownBy w' row) (hne : ∀ a, A = some a → some a.block ≠ row) : Own4 w' base A c l :=
  ⟨World.ownsRow.kept h.1 hg (by
    cases A with
    | none => exact .inl rfl
    | some a => exact .inr (hne a rfl)), h.2⟩
theorem Own4.ne_ {g : Nat} (h : Own4 w base A c l) (hg : g < base) : ∀ ad, A = some ad → ad.block ≠ g := fun ad e => by
  have := (h.lt ad e).1
  omega
theorem Own4.setRow {g : Nat} (h : Own4 w base A c l) (hg : g < base) (cs : Array Value) : Own4 (w.setRow g cs) base A c l :=
  h.kept (row := some g) ⟨rfl, rfl, rfl, by simp [World.setRow], fun i _ hn => setRow_other w g i cs (by intro e; subst e; exact hn rfl)⟩ (fun ad e h2 => by
    injection h2 with h2
    exact h.ne_ hg ad e h2)
theorem Own4.setC {g : Nat} (h : Own4 w base A c l) (hg : g < base) (i : Nat) (v : Value) : Own4 (w.setCell ⟨g, i, none⟩ v) base A c l :=
  h.kept (row := some g) ⟨rfl, rfl, rfl, by simp [World.setCell], fun j _ hn => Below.heap_setCell _ _ _ j (by simpa using hn)⟩ (fun ad e h2 => by
    injection h2 with h2
    exact h.ne_ hg ad e h2)
/-- The arrays of a slice read. -/
def Rs4 (w : World) (g : Nat) (l : List (List Int)) : Prop := g < w.heap.size ∧ ∀ i, i < l.length → w.rangeAt g (4 * i) (ints (l.getD i []))
theorem Own4.reads (h : Own4 w base A c l) (hn : 0 < l.length) : ∃ g, A = some ⟨g, 0, none⟩ ∧ Rs4 w g l := by
  have hr := Reads.of_own h.1
  rcases h.1.2 with ⟨_, h0⟩ | ⟨g, cap, cur, hv, _⟩
  · omega
  · injection hv with hA _ _
    subst hA
    obtain ⟨ad, e, hb, hc⟩ := hr.2 hn
    injection e with e
    subst e
    refine ⟨g, rfl, hb, fun i hi j v hv => ?_⟩
    have hj : j < 4 := by
      have := (List.getElem?_eq_some_iff.1 hv).1
      rw [ints_len] at this
      have h4 : (l.getD i []).length = 4 := by
        rw [List.getD_eq_getElem?_getD, List.getElem?_eq_getElem hi]
        exact h.2 _ (List.getElem_mem hi)
      omega
    have := hc (4 * i + j) v (by rw [cel4_get h.2 i j hi hj]; exact hv)
    rwa [add_zero'] at this
theorem Rs4.below {g : Nat} (h : Rs4 w g l) (hb : Below w.heap.size w w') : Rs4 w' g l :=
  ⟨Nat.lt_of_lt_of_le h.1 hb.size, fun i hi j v hv => (hb.cell (p := ⟨g, 4 * i + j, none⟩) h.1).trans (h.2 i hi j v hv)⟩
theorem Rs4.rowFar {g b : Nat} (h : Rs4 w g l) (hne : g ≠ b) (cs : Array Value) : Rs4 (w.setRow b cs) g l :=
  ⟨by simpa [World.setRow] using h.1, fun i hi j v hv => by
    have := h.2 i hi j v hv
    unfold World.cell? at *
    rw [setRow_other w b g cs hne]
    exact this⟩
end
end Go.Proofs.YtnbenmpjpogldaaDoor
