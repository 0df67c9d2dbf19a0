/- Plain facts on reflections and predictors. No program in sight. -/
import Derived.Test.YtnbenmpjpogldaaDoorLevM
namespace Go.Proofs.YtnbenmpjpogldaaDoor
set_option linter.unusedVariables false
set_option linter.unusedSimpArgs false
set_option maxRecDepth 100000

/-- May these be reflections? -/
def okR (q : Int) : Bool := decide (-32768 < q ∧ q < 32768)
def steadyB (k : List Int) : Bool := k.all okR
theorem okR_yes {q : Int} (h1 : -32768 < q) (h2 : q < 32768) : okR q = true := by unfold okR; simp; omega
theorem okR_no {q : Int} (h : q ≤ -32768 ∨ 32768 ≤ q) : okR q = false := by unfold okR; simp; omega
theorem steadyB_at {k : List Int} (h : steadyB k = true) (i : Nat) : -32768 < k.getD i 0 ∧ k.getD i 0 < 32768 := by
  unfold steadyB at h
  rw [List.getD_eq_getElem?_getD]
  cases hi : k[i]? with
  | none => simp
  | some x =>
    have := List.all_eq_true.1 h x (List.mem_of_getElem? hi)
    unfold okR at this
    simpa using this
/-- The first i of a list. -/
def allTo (p : Int → Bool) (l : List Int) (i : Nat) : Prop := ∀ j, j < i → p (l.getD j 0) = true
theorem allTo.zero {p : Int → Bool} {l : List Int} : allTo p l 0 := fun j h => by omega
theorem allTo.succ {p : Int → Bool} {l : List Int} {i : Nat} (h : allTo p l i) (h2 : p (l.getD i 0) = true) : allTo p l (i + 1) := fun j hj => by
  by_cases he : j = i
  · subst he; exact h2
  · exact h j (by omega)
theorem allTo.all {p : Int → Bool} {l : List Int} {i : Nat} (h : allTo p l i) (hl : l.length ≤ i) : l.all p = true := by
  rw [List.all_eq_true]
  intro x hx
  obtain ⟨j, hj⟩ := List.getElem?_of_mem hx
  have hlt := (List.getElem?_eq_some_iff.1 hj).1
  have := h j (by omega)
  rw [List.getD_eq_getElem?_getD, hj] at this
  exact this
theorem all_no {p : Int → Bool} {l : List Int} {i : Nat} (hi : i < l.length) (h : p (l.getD i 0) = false) : l.all p = false := by
  rw [Bool.eq_false_iff]
  intro hc
  have := List.all_eq_true.1 hc (l.getD i 0) (by rw [List.getD_eq_getElem?_getD, List.getElem?_eq_getElem hi]; exact List.getElem_mem hi)
  rw [h] at this
  cases this
theorem all_at {p : Int → Bool} {l : List Int} (h : l.all p = true) (i : Nat) (hi : i < l.length) : p (l.getD i 0) = true :=
  List.all_eq_true.1 h _ (by rw [List.getD_eq_getElem?_getD, List.getElem?_eq_getElem hi]; exact List.getElem_mem hi)

/-! Mix. -/
def mixE (a b : List Int) (num : Int) (i : Nat) : Int := (a.getD i 0 * (4 - num) + b.getD i 0 * num).tdiv 4
def mixB (a b : List Int) (num : Int) : Bool := decide (0 ≤ num ∧ num ≤ 4) && (steadyB a && steadyB b)
def mixL (a b : List Int) (num : Int) : List Int := if mixB a b num then (List.range 8).map (mixE a b num) else List.replicate 8 0
def errOf (b : Bool) : Int := if b then 0 else 2
theorem mixL_len (a b : List Int) (num : Int) : (mixL a b num).length = 8 := by unfold mixL; split <;> simp
theorem mix_sum {x y n : Int} (hx : -32768 < x ∧ x < 32768) (hy : -32768 < y ∧ y < 32768) (hn : 0 ≤ n ∧ n ≤ 4) : -262144 ≤ x * (4 - n) ∧ x * (4 - n) ≤ 262144 ∧ -262144 ≤ y * n ∧ y * n ≤ 262144 := by
  have h1 := mul_bound (x := x) (X := 32768) (y := 4 - n) (Y := 4) (by omega) (by omega) (by omega) (by omega)
  have h2 := mul_bound (x := y) (X := 32768) (y := n) (Y := 4) (by omega) (by omega) (by omega) (by omega)
  omega

/-! Expand. -/
def exF (g : Int) : Nat → Int
  | 0 => 32768
  | i + 1 => (exF g i * g + 16384) / 32768
theorem exF_range {g : Int} (h0 : 0 ≤ g) (h1 : g ≤ 32768) (i : Nat) : 0 ≤ exF g i ∧ exF g i ≤ 32768 := by
  induction i with
  | zero => exact ⟨by simp [exF], by simp [exF]⟩
  | succ i ih =>
    have h2 := mul_bound (x := exF g i) (X := 32768) (y := g) (Y := 32768) (by omega) (by omega) (by omega) (by omega)
    have h3 := Int.mul_nonneg ih.1 h0
    simp only [exF]
    omega
def exE (a : List Int) (g : Int) (i : Nat) : Int := (a.getD i 0 * exF g i + 16384) / 32768
def okA (x : Int) : Bool := decide (-1073741824 ≤ x ∧ x ≤ 1073741824)
def exB (a : List Int) (g : Int) : Bool := decide (0 ≤ g ∧ g ≤ 32768) && a.all okA
def exL (a : List Int) (g : Int) : List Int := if exB a g then (List.range 9).map (exE a g) else List.replicate 9 0
theorem exL_len (a : List Int) (g : Int) : (exL a g).length = 9 := by unfold exL; split <;> simp

/-! Direct. -/
/-- The predictor of the first so many reflections. -/
def dirN (k : List Int) : Nat → List Int
  | 0 => [16777216]
  | m + 1 => growL (dirN k m) (k.getD m 0) (m + 1)
theorem dirN_len (k : List Int) (m : Nat) : (dirN k m).length = m + 1 := by
  cases m with
  | zero => rfl
  | succ m => simp [dirN, growL_len]
theorem dirN_within {k : List Int} (h : ∀ i, -32768 ≤ k.getD i 0 ∧ k.getD i 0 ≤ 32768) (m : Nat) : Within (16777216 * 2 ^ m) (dirN k m) := by
  induction m with
  | zero =>
    intro i
    simp only [dirN]
    match i with
    | 0 => simp
    | i + 1 => simp
  | succ m ih =>
    have h2 := Within.grow (m := m + 1) (by have : (0 : Int) < 2 ^ m := Int.pow_pos (by decide); omega) ih (h m)
    have e : (16777216 : Int) * 2 ^ (m + 1) = 2 * (16777216 * 2 ^ m) := by rw [Int.pow_succ]; omega
    rw [e]
    exact h2
def dirL (k : List Int) : List Int := if steadyB k then (List.range 9).map (fun i => ((dirN k 8).getD i 0 + 2048) / 4096) else List.replicate 9 0
theorem dirL_len (k : List Int) : (dirL k).length = 9 := by unfold dirL; split <;> simp
end Go.Proofs.YtnbenmpjpogldaaDoor
