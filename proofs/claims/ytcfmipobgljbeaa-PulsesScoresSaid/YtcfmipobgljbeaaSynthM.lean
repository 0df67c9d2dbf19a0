/- Plain facts on the filter that makes speech. No program in sight. -/
import Derived.Test.YtcfmipobgljbeaaSliceW
import Derived.Test.YtcfmipobgljbeaaSumM
namespace Go.Proofs.Ytcfmipobgljbeaa
set_option linter.unusedVariables false
set_option linter.unusedSimpArgs false
set_option maxRecDepth 100000

def okP1 (x : Int) : Bool := decide (-1048576 ≤ x ∧ x ≤ 1048576)
theorem okP1_yes {x : Int} (h1 : -1048576 ≤ x) (h2 : x ≤ 1048576) : okP1 x = true := by unfold okP1; simp; omega
theorem okP1_no {x : Int} (h : x < -1048576 ∨ 1048576 < x) : okP1 x = false := by unfold okP1; simp; omega
def okP (a : List Int) : Bool := a.all okP1
theorem okP_at {a : List Int} (h : okP a = true) (i : Nat) : -1048576 ≤ a.getD i 0 ∧ a.getD i 0 ≤ 1048576 := by
  by_cases hi : i < a.length
  · have := List.all_eq_true.mp h _ (List.getElem_mem hi)
    rw [List.getD_eq_getElem?_getD, List.getElem?_eq_getElem hi]
    unfold okP1 at this
    simpa using this
  · rw [List.getD_eq_getElem?_getD, List.getElem?_eq_none (by omega)]
    simp
def goodF (a p l : List Int) : Bool := okP a && (decide (a.getD 0 0 = 4096) && (all16 p && all16 l))

def gterm (a p : List Int) (i : Nat) : Int := a.getD (i + 1) 0 * p.getD i 0
theorem gterm_bound {a p : List Int} (ha : okP a = true) (hp : all16 p = true) (i : Nat) : -34359738368 ≤ gterm a p i ∧ gterm a p i ≤ 34359738368 := by
  have h1 := okP_at ha (i + 1)
  have h2 := all16_at hp i
  have := mul_bound (x := a.getD (i + 1) 0) (X := 1048576) (y := p.getD i 0) (Y := 32768) (by omega) (by omega) ⟨by omega, by omega⟩ ⟨by omega, by omega⟩
  unfold gterm
  omega
theorem gsum_bound {a p : List Int} (ha : okP a = true) (hp : all16 p = true) (n : Nat) : -(34359738368 * (n : Int)) ≤ sumN (gterm a p) n ∧ sumN (gterm a p) n ≤ 34359738368 * (n : Int) := by
  induction n with
  | zero => simp [sumN]
  | succ n ih =>
    have := gterm_bound ha hp n
    simp only [sumN]
    push_cast
    omega
def guessL (a p : List Int) : Int := (2048 + sumN (gterm a p) 8) / 4096
theorem guess_bound {a p : List Int} (ha : okP a = true) (hp : all16 p = true) : -1000000000 ≤ guessL a p ∧ guessL a p ≤ 1000000000 := by
  have := gsum_bound ha hp 8
  unfold guessL
  omega

def pushL (p : List Int) (x : Int) : List Int := x :: p.take 7
theorem pushL_len {p : List Int} (h : p.length = 8) (x : Int) : (pushL p x).length = 8 := by simp [pushL, h]
theorem all16_take {p : List Int} (h : all16 p = true) (n : Nat) : all16 (p.take n) = true := by
  unfold all16 at *
  rw [List.all_eq_true] at *
  intro x hx
  exact h x (List.mem_of_mem_take hx)
theorem all16_push {p : List Int} (h : all16 p = true) {x : Int} (hx : ok16 x = true) : all16 (pushL p x) = true := by
  have := all16_take h 7
  unfold all16 at *
  simp [pushL, hx, this]
theorem ok16_s16 (x : Int) : ok16 (s16 x) = true := by
  have := s16_range x
  exact ok16_yes (by omega) (by omega)

/-- The newest eight of numbers behind a past, the newest first. -/
def newL (p : List Int) : List Int → List Int
  | [] => p
  | x :: xs => newL (pushL p x) xs
theorem newL_len : ∀ (l p : List Int), p.length = 8 → (newL p l).length = 8
  | [], _, h => h
  | x :: xs, p, h => newL_len xs (pushL p x) (pushL_len h x)
theorem newL_snoc : ∀ (l p : List Int) (x : Int), newL p (l ++ [x]) = pushL (newL p l) x
  | [], _, _ => rfl
  | y :: ys, p, x => newL_snoc ys (pushL p y) x
theorem newL_all : ∀ (l p : List Int), all16 p = true → all16 l = true → all16 (newL p l) = true
  | [], _, h, _ => h
  | x :: xs, p, h, hl => by
    have h2 : ok16 x = true ∧ all16 xs = true := by simpa [all16] using hl
    exact newL_all xs (pushL p x) (all16_push h h2.1) h2.2
theorem pushL_get {p : List Int} (x : Int) (i : Nat) (hi : i < 8) : (pushL p x).getD i 0 = if i = 0 then x else p.getD (i - 1) 0 := by
  rcases i with _ | i
  · simp [pushL]
  · have h7 : i < 7 := by omega
    simp [pushL, h7]
/-- The reference's row. -/
def newAt (p l : List Int) (i : Nat) : Int := if i < l.length then l.getD (l.length - 1 - i) 0 else p.getD (i - l.length) 0
theorem newAt_snoc (p l : List Int) (x : Int) (i : Nat) : newAt p (l ++ [x]) i = if i = 0 then x else newAt p l (i - 1) := by
  unfold newAt
  rcases i with _ | i
  · simp
  · simp only [List.length_append, List.length_singleton, Nat.add_sub_cancel, Nat.succ_ne_zero, if_false]
    by_cases h : i < l.length
    · rw [if_pos (by omega), if_pos h]
      have e : l.length - (i + 1) = l.length - 1 - i := by omega
      rw [e, List.getD_eq_getElem?_getD, List.getD_eq_getElem?_getD, List.getElem?_append_left (by omega)]
    · rw [if_neg (by omega), if_neg h]
      congr 1
      omega
theorem newL_get (p : List Int) (l : List Int) : ∀ i, i < 8 → (newL p l).getD i 0 = newAt p l i := by
  induction hl : l.length generalizing l with
  | zero =>
    intro i _
    obtain rfl : l = [] := List.eq_nil_of_length_eq_zero hl
    simp [newL, newAt]
  | succ n ih =>
    intro i hi
    have hne : l ≠ [] := by intro h; simp [h] at hl
    obtain ⟨m, x, rfl⟩ : ∃ m x, l = m ++ [x] := ⟨l.dropLast, l.getLast hne, (List.dropLast_concat_getLast hne).symm⟩
    rw [newL_snoc, newAt_snoc, pushL_get _ _ hi]
    split
    · rfl
    · exact ih m (by simpa using hl) (i - 1) (by omega)
theorem newL_range {p l : List Int} (hp : p.length = 8) : newL p l = (List.range 8).map (newAt p l) := by
  refine list_ext (by rw [newL_len _ _ hp]; simp) fun k hk => ?_
  rw [newL_len _ _ hp] at hk
  rw [newL_get p l k hk]
  simp [hk]

/-- The samples of an excitation. -/
def makeN (a p e : List Int) : Nat → List Int
  | 0 => []
  | n + 1 => makeN a p e n ++ [s16 (e.getD n 0 - guessL a (newL p (makeN a p e n)))]
theorem makeN_len (a p e : List Int) (n : Nat) : (makeN a p e n).length = n := by
  induction n with
  | zero => rfl
  | succ n ih => simp [makeN, ih]
theorem makeN_all (a p e : List Int) (n : Nat) : all16 (makeN a p e n) = true := by
  induction n with
  | zero => rfl
  | succ n ih =>
    unfold all16 at *
    simp [makeN, ih, ok16_s16]
/-- The excitation of samples. -/
def undoN (a p l : List Int) : Nat → List Int
  | 0 => []
  | n + 1 => undoN a p l n ++ [s16 (l.getD n 0 + guessL a (newL p (l.take n)))]
theorem undoN_len (a p e : List Int) (n : Nat) : (undoN a p e n).length = n := by
  induction n with
  | zero => rfl
  | succ n ih => simp [undoN, ih]
theorem take_snoc {l : List Int} {n : Nat} (h : n < l.length) : l.take (n + 1) = l.take n ++ [l.getD n 0] := by
  rw [List.take_add_one, List.getElem?_eq_getElem h]
  simp [List.getD_eq_getElem?_getD, List.getElem?_eq_getElem h]
end Go.Proofs.Ytcfmipobgljbeaa
