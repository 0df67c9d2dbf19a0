/- Plain facts on predictors that grow by reflections, and the recursion that finds the reflections. No program in sight. -/
import Derived.WalkKit
namespace Go.Proofs.YtnbenmpjpogldaaDoor
set_option linter.unusedVariables false
set_option linter.unusedSimpArgs false
set_option maxRecDepth 100000

/-- The sum of the first n. -/
def sumN (f : Nat → Int) : Nat → Int
  | 0 => 0
  | n + 1 => sumN f n + f n
theorem sumN_congr {f g : Nat → Int} (n : Nat) (h : ∀ i, i < n → f i = g i) : sumN f n = sumN g n := by
  induction n with
  | zero => rfl
  | succ n ih => simp only [sumN]; rw [ih (fun i hi => h i (by omega)), h n (by omega)]
theorem sumN_bound {f : Nat → Int} {B : Int} (n : Nat) (h : ∀ i, i < n → -B ≤ f i ∧ f i ≤ B) : -(B * n) ≤ sumN f n ∧ sumN f n ≤ B * n := by
  induction n with
  | zero => simp [sumN]
  | succ n ih =>
    have h1 := ih (fun i hi => h i (by omega))
    have h2 := h n (by omega)
    have e : B * ((n + 1 : Nat) : Int) = B * (n : Int) + B := by rw [Int.natCast_succ, Int.mul_add, Int.mul_one]
    rw [e]
    simp only [sumN]
    omega

theorem mul_bound {x y X Y : Int} (hX : 0 ≤ X) (hY : 0 ≤ Y) (hx : -X ≤ x ∧ x ≤ X) (hy : -Y ≤ y ∧ y ≤ Y) : -(X * Y) ≤ x * y ∧ x * y ≤ X * Y := by
  have h : (x * y).natAbs ≤ X.natAbs * Y.natAbs := by
    rw [Int.natAbs_mul]
    exact Nat.mul_le_mul (by omega) (by omega)
  have e : ((X.natAbs * Y.natAbs : Nat) : Int) = X * Y := by
    rw [Int.natCast_mul, Int.natAbs_of_nonneg hX, Int.natAbs_of_nonneg hY]
  omega

/-- A predictor of m numbers with one reflection more. -/
def growL (a : List Int) (q : Int) (m : Nat) : List Int := (List.range (m + 1)).map fun i => if i = 0 then a.getD 0 0 else a.getD i 0 + q * a.getD (m - i) 0 / 32768
theorem growL_len (a : List Int) (q : Int) (m : Nat) : (growL a q m).length = m + 1 := by simp [growL]
theorem growL_get (a : List Int) (q : Int) (m i : Nat) (h : i ≤ m) : (growL a q m).getD i 0 = if i = 0 then a.getD 0 0 else a.getD i 0 + q * a.getD (m - i) 0 / 32768 := by
  unfold growL
  rw [List.getD_eq_getElem?_getD, List.getElem?_map, List.getElem?_range (by omega)]
  rfl

/-- All numbers within B. -/
def Within (B : Int) (a : List Int) : Prop := ∀ i, -B ≤ a.getD i 0 ∧ a.getD i 0 ≤ B
theorem Within.grow {B : Int} {a : List Int} {q : Int} {m : Nat} (hB : 0 ≤ B) (h : Within B a) (hq : -32768 ≤ q ∧ q ≤ 32768) : Within (2 * B) (growL a q m) := by
  intro i
  by_cases hi : i ≤ m
  · rw [growL_get a q m i hi]
    have h0 := h 0
    have h1 := h i
    have h2 := h (m - i)
    split
    · omega
    · have h3 := mul_bound (X := 32768) (by omega) hB hq h2
      omega
  · rw [List.getD_eq_getElem?_getD, List.getElem?_eq_none (by rw [growL_len]; omega)]
    simp
    omega

/-- What a step sums. -/
def lacc (a r : List Int) (m : Nat) : Int := sumN (fun i => a.getD i 0 / 512 * r.getD (m - i) 0 / 32768) m
/-- The reflections: so many rounds are to come; m numbers in a; k what has been found. -/
def lev (r : List Int) : Nat → Nat → List Int → Int → List Int → List Int × Int × Bool
  | 0, _, _, e, k => (k, e, true)
  | f + 1, m, a, e, k =>
    if (-lacc a r m * 32768).tdiv e ≤ -32000 ∨ 32000 ≤ (-lacc a r m * 32768).tdiv e then (k, e, false)
    else if e - e * (-lacc a r m * 32768).tdiv e / 32768 * (-lacc a r m * 32768).tdiv e / 32768 ≤ 0 then (k ++ [(-lacc a r m * 32768).tdiv e], 0, false)
    else lev r f (m + 1) (growL a ((-lacc a r m * 32768).tdiv e) m) (e - e * (-lacc a r m * 32768).tdiv e / 32768 * (-lacc a r m * 32768).tdiv e / 32768) (k ++ [(-lacc a r m * 32768).tdiv e])

theorem lev_zero (r : List Int) (m : Nat) (a : List Int) (e : Int) (k : List Int) : lev r 0 m a e k = (k, e, true) := rfl
theorem lev_step (r : List Int) (f m : Nat) (a : List Int) (e : Int) (k : List Int) (q e' : Int) (hq : q = (-lacc a r m * 32768).tdiv e) (he : e' = e - e * q / 32768 * q / 32768) :
    lev r (f + 1) m a e k = if q ≤ -32000 ∨ 32000 ≤ q then (k, e, false) else if e' ≤ 0 then (k ++ [q], 0, false) else lev r f (m + 1) (growL a q m) e' (k ++ [q]) := by
  subst he hq
  rfl

theorem lacc_bound {a r : List Int} {m : Nat} (ha : Within 4294967296 a) (hr : Within 2147483647 r) (hm : m ≤ 8) : -4398046511104 ≤ lacc a r m ∧ lacc a r m ≤ 4398046511104 := by
  have h := sumN_bound (f := fun i => a.getD i 0 / 512 * r.getD (m - i) 0 / 32768) (B := 549755813888) m (fun i hi => by
    have h1 := ha i
    have h2 := hr (m - i)
    have h3 := mul_bound (x := a.getD i 0 / 512) (X := 8388608) (y := r.getD (m - i) 0) (Y := 2147483647) (by omega) (by omega) (by omega) h2
    omega)
  unfold lacc
  have : (549755813888 : Int) * m ≤ 549755813888 * 8 := by omega
  omega

theorem tdiv_bound {x e : Int} (he : 0 < e) : -(x.natAbs : Int) ≤ x.tdiv e ∧ x.tdiv e ≤ x.natAbs := by
  have h : (x.tdiv e).natAbs ≤ x.natAbs := by rw [Int.natAbs_tdiv]; exact Nat.div_le_self _ _
  omega

theorem less_left {e q : Int} (he : 0 ≤ e) : 0 ≤ e * q / 32768 * q / 32768 := by
  have h : 0 ≤ e * q / 32768 * q := by
    rcases Int.le_total 0 q with hq | hq
    · exact Int.mul_nonneg (by have := Int.mul_nonneg he hq; omega) hq
    · have h1 : e * q ≤ 0 := Int.mul_nonpos_of_nonneg_of_nonpos he hq
      have h2 : e * q / 32768 ≤ 0 := by omega
      have h3 : e * q / 32768 * q = (-(e * q / 32768)) * (-q) := by rw [Int.neg_mul_neg]
      rw [h3]
      exact Int.mul_nonneg (by omega) (by omega)
  omega
theorem e_bound {e q : Int} (h0 : 0 < e) (h1 : e ≤ 2147483647) (hq : -32000 < q) (hq2 : q < 32000) :
    (-70368744144896 ≤ e * q ∧ e * q ≤ 70368744144896) ∧ (-70368744144896 ≤ e * q / 32768 * q ∧ e * q / 32768 * q ≤ 70368744144896) ∧ e - e * q / 32768 * q / 32768 ≤ e ∧ -2147483648 ≤ e - e * q / 32768 * q / 32768 := by
  have h2 := mul_bound (x := e) (X := 2147483647) (y := q) (Y := 32000) (by omega) (by omega) (by omega) (by omega)
  have h3 := mul_bound (x := e * q / 32768) (X := 2147483648) (y := q) (Y := 32000) (by omega) (by omega) (by omega) (by omega)
  have h4 := less_left (e := e) (q := q) (by omega)
  omega

/-- Numbers and noughts behind them, n in all. -/
def padTo (n : Nat) (k : List Int) : List Int := k ++ List.replicate (n - k.length) 0
theorem padTo_len {n : Nat} {k : List Int} (h : k.length ≤ n) : (padTo n k).length = n := by simp [padTo]; omega
theorem padTo_get {n : Nat} {k : List Int} (i : Nat) : (padTo n k).getD i 0 = k.getD i 0 := by
  unfold padTo
  simp only [List.getD_eq_getElem?_getD]
  by_cases hi : i < k.length
  · rw [List.getElem?_append_left hi]
  · rw [List.getElem?_append_right (by omega), List.getElem?_eq_none (l := k) (by omega)]
    cases h : (List.replicate (n - k.length) (0 : Int))[i - k.length]? with
    | none => rfl
    | some x =>
      have := List.mem_of_getElem? h
      have := List.eq_of_mem_replicate this
      subst this; rfl
theorem padTo_snoc {n : Nat} {k : List Int} (q : Int) (h : k.length < n) : padTo n (k ++ [q]) = (padTo n k).set k.length q := by
  unfold padTo
  obtain ⟨d, hd⟩ : ∃ d, n - k.length = d + 1 := ⟨n - k.length - 1, by omega⟩
  rw [List.length_append, List.length_singleton, hd, show n - (k.length + 1) = d from by omega, List.replicate_succ, List.set_append_right _ _ (Nat.le_refl _)]
  simp
end Go.Proofs.YtnbenmpjpogldaaDoor
