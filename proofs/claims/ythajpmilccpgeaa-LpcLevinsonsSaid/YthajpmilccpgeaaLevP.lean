/- Plain facts on the rounds that find the reflections. No program in sight. -/
import Derived.Test.YthajpmilccpgeaaLpcM
namespace Go.Proofs.Ythajpmilccpgeaa
set_option linter.unusedVariables false
set_option linter.unusedSimpArgs false
set_option maxRecDepth 100000

def okS (x : Int) : Bool := decide (-2147483647 ≤ x ∧ x ≤ 2147483647)
theorem okS_yes {x : Int} (h1 : -2147483647 ≤ x) (h2 : x ≤ 2147483647) : okS x = true := by unfold okS; simp; omega
theorem okS_no {x : Int} (h : x < -2147483647 ∨ 2147483647 < x) : okS x = false := by unfold okS; simp; omega
/-- The reflections, what is left, whether it came to the end. -/
def levR (r : List Int) : List Int × Int × Bool := if r.all okS = false ∨ r.getD 0 0 ≤ 0 then ([], 0, false) else lev r 8 1 [16777216] (r.getD 0 0) []
theorem levR_bad {r : List Int} (h : r.all okS = false) : levR r = ([], 0, false) := by unfold levR; rw [if_pos (.inl h)]
theorem levR_low {r : List Int} (h : r.getD 0 0 ≤ 0) : levR r = ([], 0, false) := by unfold levR; rw [if_pos (.inr h)]
theorem levR_go {r : List Int} (h : r.all okS = true) (h2 : 0 < r.getD 0 0) : levR r = lev r 8 1 [16777216] (r.getD 0 0) [] := by unfold levR; rw [if_neg (by rintro (h3 | h3); (rw [h] at h3; cases h3); omega)]
theorem okS_within {r : List Int} (h : r.all okS = true) : Within 2147483647 r := by
  intro i
  by_cases hi : i < r.length
  · have := all_at h i hi
    unfold okS at this
    simpa using this
  · rw [List.getD_eq_getElem?_getD, List.getElem?_eq_none (by omega)]; simp

/-- What holds ahead of round m (from 1 on). -/
structure LevSt (r : List Int) (m : Nat) (al : List Int) (e : Int) (k : List Int) : Prop where
  run : levR r = lev r (9 - m) m al e k
  la : al.length = m
  lk : k.length + 1 = m
  bd : Within (16777216 * 2 ^ (m - 1)) al
  e0 : 0 < e
  e1 : e ≤ 2147483647

theorem LevSt.start {r : List Int} (h : r.all okS = true) (h2 : 0 < r.getD 0 0) : LevSt r 1 [16777216] (r.getD 0 0) [] :=
  ⟨levR_go h h2, rfl, rfl, by
    intro i
    match i with
    | 0 => simp
    | i + 1 => simp, h2, (okS_within h 0).2⟩
theorem LevSt.bnd {r : List Int} {m : Nat} {al k : List Int} {e : Int} (h : LevSt r m al e k) (hm : m ≤ 9) : Within 4294967296 al := by
  intro i
  have h1 := h.bd i
  have h2 : (2 : Nat) ^ (m - 1) ≤ 2 ^ 8 := Nat.pow_le_pow_right (by decide) (by omega)
  have h3 : ((2 ^ (m - 1) : Nat) : Int) = 2 ^ (m - 1) := by simp
  omega
theorem LevSt.fin {r al k : List Int} {e : Int} (h : LevSt r 9 al e k) : levR r = (k, e, true) := h.run
section
variable {r al k : List Int} {m : Nat} {e q : Int}
theorem LevSt.stop (h : LevSt r m al e k) (h1 : 1 ≤ m) (hm : m ≤ 8) (hq : q = (-lacc al r m * 32768).tdiv e) (hb : q ≤ -32000 ∨ 32000 ≤ q) : levR r = (k, e, false) := by
  rw [h.run, show 9 - m = (8 - m) + 1 from by omega, lev_step r (8 - m) m al e k q _ hq rfl, if_pos hb]
theorem LevSt.none_ (h : LevSt r m al e k) (h1 : 1 ≤ m) (hm : m ≤ 8) (hq : q = (-lacc al r m * 32768).tdiv e) (hb : -32000 < q) (hb2 : q < 32000) (he : e - e * q / 32768 * q / 32768 ≤ 0) : levR r = (k ++ [q], 0, false) := by
  rw [h.run, show 9 - m = (8 - m) + 1 from by omega, lev_step r (8 - m) m al e k q _ hq rfl, if_neg (by omega), if_pos he]
theorem LevSt.next (h : LevSt r m al e k) (h1 : 1 ≤ m) (hm : m ≤ 8) (hq : q = (-lacc al r m * 32768).tdiv e) (hb : -32000 < q) (hb2 : q < 32000) (he : 0 < e - e * q / 32768 * q / 32768) :
    LevSt r (m + 1) (growL al q m) (e - e * q / 32768 * q / 32768) (k ++ [q]) := by
  have hE := e_bound h.e0 h.e1 hb hb2
  refine ⟨?_, growL_len _ _ _, by have := h.lk; simp; omega, ?_, he, by have := h.e1; omega⟩
  · rw [h.run, show 9 - m = (8 - m) + 1 from by omega, lev_step r (8 - m) m al e k q _ hq rfl, if_neg (by omega), if_neg (by omega), show 9 - (m + 1) = 8 - m from by omega]
  · have h2 := Within.grow (m := m) (by have : (0 : Int) < 2 ^ (m - 1) := Int.pow_pos (by decide); omega) h.bd ⟨by omega, by omega⟩ (q := q)
    have e2 : (16777216 : Int) * 2 ^ (m + 1 - 1) = 2 * (16777216 * 2 ^ (m - 1)) := by
      rw [show m + 1 - 1 = (m - 1) + 1 from by omega, Int.pow_succ]; omega
    rw [e2]
    exact h2
end

/-- The array of the program holds the list, noughts behind it. -/
def Arr9 (arr al : List Int) : Prop := arr.length = 9 ∧ ∀ j, arr.getD j 0 = al.getD j 0
/-- Ahead of round i: the numbers below i are the next predictor's. -/
def LevMid (al zs : List Int) (q : Int) (m i : Nat) : Prop := zs.length = 9 ∧ ∀ j, zs.getD j 0 = if j < i then (growL al q m).getD j 0 else al.getD j 0
theorem LevMid.start {arr al : List Int} {q : Int} {m : Nat} (h : Arr9 arr al) : LevMid al arr q m 1 := ⟨h.1, fun j => by
  rw [h.2 j]
  split
  · obtain rfl : j = 0 := by omega
    rw [growL_get _ _ _ _ (by omega), if_pos rfl]
  · rfl⟩
theorem LevMid.step {al zs : List Int} {q : Int} {m i : Nat} (h : LevMid al zs q m i) (h0 : 1 ≤ i) (hi : i ≤ m) (h9 : i < 9) :
    LevMid al (zs.set i (al.getD i 0 + q * al.getD (m - i) 0 / 32768)) q m (i + 1) := by
  refine ⟨by simpa using h.1, fun j => ?_⟩
  by_cases he : i = j
  · subst he
    rw [List.getD_eq_getElem?_getD, List.getElem?_set_self (by rw [h.1]; exact h9), if_pos (by omega), growL_get _ _ _ _ hi, if_neg (by omega)]
    rfl
  · have e : (zs.set i (al.getD i 0 + q * al.getD (m - i) 0 / 32768)).getD j 0 = zs.getD j 0 := by
      simp [he]
    rw [e, h.2 j]
    by_cases hj : j < i
    · rw [if_pos hj, if_pos (by omega)]
    · rw [if_neg hj, if_neg (by omega)]
theorem LevMid.fin {al zs : List Int} {q : Int} {m : Nat} (h : LevMid al zs q m (m + 1)) (hl : al.length = m) : Arr9 zs (growL al q m) := ⟨h.1, fun j => by
  rw [h.2 j]
  split
  · rfl
  · rw [List.getD_eq_getElem?_getD, List.getElem?_eq_none (by omega), List.getD_eq_getElem?_getD, List.getElem?_eq_none (by rw [growL_len]; omega)]⟩

/-- The part of a step's sum. -/
def lterm (al r : List Int) (m i : Nat) : Int := al.getD i 0 / 512 * r.getD (m - i) 0 / 32768
theorem lacc_eq (al r : List Int) (m : Nat) : lacc al r m = sumN (lterm al r m) m := rfl
theorem lterm_bound {al r : List Int} {m : Nat} (ha : Within 4294967296 al) (hr : Within 2147483647 r) (i : Nat) :
    (-8388608 ≤ al.getD i 0 / 512 ∧ al.getD i 0 / 512 ≤ 8388608) ∧ (-18014398509481984 ≤ al.getD i 0 / 512 * r.getD (m - i) 0 ∧ al.getD i 0 / 512 * r.getD (m - i) 0 ≤ 18014398509481984) ∧ (-549755813888 ≤ lterm al r m i ∧ lterm al r m i ≤ 549755813888) := by
  have h1 := ha i
  have h2 := hr (m - i)
  have h3 := mul_bound (x := al.getD i 0 / 512) (X := 8388608) (y := r.getD (m - i) 0) (Y := 2147483647) (by omega) (by omega) (by omega) h2
  unfold lterm
  omega
theorem lsum_bound {al r : List Int} {m : Nat} (ha : Within 4294967296 al) (hr : Within 2147483647 r) (i : Nat) (hi : i ≤ 8) : -4398046511104 ≤ sumN (lterm al r m) i ∧ sumN (lterm al r m) i ≤ 4398046511104 := by
  have h := sumN_bound (f := lterm al r m) (B := 549755813888) i (fun j _ => (lterm_bound ha hr j).2.2)
  have : (549755813888 : Int) * i ≤ 549755813888 * 8 := by omega
  omega
end Go.Proofs.Ythajpmilccpgeaa
