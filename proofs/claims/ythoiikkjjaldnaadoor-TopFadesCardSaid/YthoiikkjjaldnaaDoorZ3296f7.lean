/- Texts that the law rests on, laid together: SynthM, QuantW, LevP. -/
import Derived.Test.YthoiikkjjaldnaaDoorZ7f3e4a
import Derived.Test.YthoiikkjjaldnaaDoorZ694481
import Derived.Test.YthoiikkjjaldnaaDoorZ6b4648
import Derived.Test.YthoiikkjjaldnaaDoorZ9fe276
import Derived.Test.YthoiikkjjaldnaaDoorZ7a1a29
/- Plain facts on the filter that makes speech. No program in sight. -/
namespace Go.Proofs.YthoiikkjjaldnaaDoor
set_option linter.unusedVariables false
set_option linter.unusedSimpArgs false
set_option maxRecDepth 100000

def okP1 (x : Int) : Bool := decide (-1048576 ≤ x ∧ x ≤ 1048576)
theorem okP1_yes {x : Int} (h1 : -1048576 ≤ x) (h2 : x ≤ 1048576) : okP1 x = true := by unfold okP1; simp; omega
theorem okP1_no {x : Int} (h : x < -1048576 ∨ 1048576 < x) : okP1 x = false := by unfold okP1; simp; omega
def okP (a : List Int) : Bool := a.all okP1
theorem okP_at {a : List Int} (h : okP a = true) (i : Nat) : -1048576 ≤ a.getD i 0 ∧ a.getD i 0 ≤ 1048576 := by
  by_cases hi : i < a.length
  · have := List.all_eq_true.mp h _ (List.getElem_mem hi)
    rw [List.getD_eq_getElem?_getD, List.getElem?_eq_getElem hi]
    unfold okP1 at this
    simpa using this
  · rw [List.getD_eq_getElem?_getD, List.getElem?_eq_none (by omega)]
    simp
def goodF (a p l : List Int) : Bool := okP a && (decide (a.getD 0 0 = 4096) && (all16 p && all16 l))

def gterm (a p : List Int) (i : Nat) : Int := a.getD (i + 1) 0 * p.getD i 0
theorem gterm_bound {a p : List Int} (ha : okP a = true) (hp : all16 p = true) (i : Nat) : -34359738368 ≤ gterm a p i ∧ gterm a p i ≤ 34359738368 := by
  have h1 := okP_at ha (i + 1)
  have h2 := all16_at hp i
  have := mul_bound (x := a.getD (i + 1) 0) (X := 1048576) (y := p.getD i 0) (Y := 32768) (by omega) (by omega) ⟨by omega, by omega⟩ ⟨by omega, by omega⟩
  unfold gterm
  omega
theorem gsum_bound {a p : List Int} (ha : okP a = true) (hp : all16 p = true) (n : Nat) : -(34359738368 * (n : Int)) ≤ sumN (gterm a p) n ∧ sumN (gterm a p) n ≤ 34359738368 * (n : Int) := by
  induction n with
  | zero => simp [sumN]
  | succ n ih =>
    have := gterm_bound ha hp n
    simp only [sumN]
    push_cast
    omega
def guessL (a p : List Int) : Int := (2048 + sumN (gterm a p) 8) / 4096
theorem guess_bound {a p : List Int} (ha : okP a = true) (hp : all16 p = true) : -1000000000 ≤ guessL a p ∧ guessL a p ≤ 1000000000 := by
  have := gsum_bound ha hp 8
  unfold guessL
  omega

def pushL (p : List Int) (x : Int) : List Int := x :: p.take 7
theorem pushL_len {p : List Int} (h : p.length = 8) (x : Int) : (pushL p x).length = 8 := by simp [pushL, h]
theorem all16_take {p : List Int} (h : all16 p = true) (n : Nat) : all16 (p.take n) = true := by
  unfold all16 at *
  rw [List.all_eq_true] at *
  intro x hx
  exact h x (List.mem_of_mem_take hx)
theorem all16_push {p : List Int} (h : all16 p = true) {x : Int} (hx : ok16 x = true) : all16 (pushL p x) = true := by
  have := all16_take h 7
  unfold all16 at *
  simp [pushL, hx, this]
theorem ok16_s16 (x : Int) : ok16 (s16 x) = true := by
  have := s16_range x
  exact ok16_yes (by omega) (by omega)

/-- The newest eight of numbers behind a past, the newest first. -/
def newL (p : List Int) : List Int → List Int
  | [] => p
  | x :: xs => newL (pushL p x) xs
theorem newL_len : ∀ (l p : List Int), p.length = 8 → (newL p l).length = 8
  | [], _, h => h
  | x :: xs, p, h => newL_len xs (pushL p x) (pushL_len h x)
theorem newL_snoc : ∀ (l p : List Int) (x : Int), newL p (l ++ [x]) = pushL (newL p l) x
  | [], _, _ => rfl
  | y :: ys, p, x => newL_snoc ys (pushL p y) x
theorem newL_all : ∀ (l p : List Int), all16 p = true → all16 l = true → all16 (newL p l) = true
  | [], _, h, _ => h
  | x :: xs, p, h, hl => by
    have h2 : ok16 x = true ∧ all16 xs = true := by simpa [all16] using hl
    exact newL_all xs (pushL p x) (all16_push h h2.1) h2.2
/-- The samples of an excitation. -/
def makeN (a p e : List Int) : Nat → List Int
  | 0 => []
  | n + 1 => makeN a p e n ++ [s16 (e.getD n 0 - guessL a (newL p (makeN a p e n)))]
theorem makeN_len (a p e : List Int) (n : Nat) : (makeN a p e n).length = n := by
  induction n with
  | zero => rfl
  | succ n ih => simp [makeN, ih]
theorem makeN_all (a p e : List Int) (n : Nat) : all16 (makeN a p e n) = true := by
  induction n with
  | zero => rfl
  | succ n ih =>
    unfold all16 at *
    simp [makeN, ih, ok16_s16]
end Go.Proofs.YthoiikkjjaldnaaDoor

/- The walks of a reflection's width and levels. -/
namespace Go.Proofs.YthoiikkjjaldnaaDoor
set_option linter.unusedVariables false
set_option linter.unusedSimpArgs false
set_option maxRecDepth 100000
open Go.RowKit

/-- How many levels. -/
def lvM (i : Int) : Int := 2 ^ (widV i).toNat
def lvErr (i n : Int) : Int := if widV i = 0 then 4 else if n < 0 ∨ lvM i ≤ n then 2 else 0
def lvPos (m n : Int) : Int := 31000 - 31000 * (2 * (m - n) - 1) * (2 * (m - n) - 1) / (m * m)
def lvV (i n : Int) : Int := if lvErr i n = 0 then (if 2 * n < lvM i then -lvPos (lvM i) (lvM i - 1 - n) else lvPos (lvM i) n) else 0

theorem sq_le (r m : Int) (h1 : 0 ≤ r) (h2 : r ≤ m) (hm : m ≤ 128) : 0 ≤ 31000 * r ∧ 31000 * r ≤ 3968000 ∧ 0 ≤ 31000 * r * r ∧ 31000 * r * r ≤ 507904000 := by
  have h3 : 31000 * r * r ≤ 3968000 * 128 := Int.mul_le_mul (by omega) (by omega) h1 (by omega)
  have h4 : 0 ≤ 31000 * r * r := Int.mul_nonneg (by omega) h1
  omega

def LvAns (i n : Int) (w : World) (e : Ending) (w' : World) : Prop := e = .returned (.tuple #[.int .i64 (lvV i n), .int .i64 (lvErr i n)]) ∧ w = w'

set_option maxHeartbeats 1000000 in
theorem quantLevel_6 (i n : Int) (w : World) (hw : widV i = 6) (K : Calls Tryd.prog 76 #[.int .i64 i] w fun e w' => e = .returned (.int .i64 (6)) ∧ w = w') :
    Calls Tryd.prog 46 #[.int .i64 i, .int .i64 n] w (LvAns i n w) := by
  have hM : lvM i = 64 := by unfold lvM; rw [hw]; rfl
  have K := hid K
  by_cases h1 : n < 0 ∨ 63 < n
  · have hE : lvErr i n = 2 := by unfold lvErr; rw [if_neg (by omega), if_pos (by omega)]
    have hV : lvV i n = 0 := by unfold lvV; rw [if_neg (by omega)]
    have FIN : LvAns i n w (.returned (.tuple #[.int .i64 0, .int .i64 2])) w := ⟨by rw [hE, hV], rfl⟩
    have FIN := hid FIN
    clear hw hM hE hV
    rcases h1 with h1 | h1
    · go_enter Tryd.func46, Tryd.ntmps46
      go_wp2_with (go_at_call 76; (with_reducible refine K.out.mono ?_); rintro e w' ⟨rfl, rfl⟩)
      go_ret2
      exact FIN.out
    · have h2 : ¬ n < 0 := by omega
      go_enter Tryd.func46, Tryd.ntmps46
      go_wp2_with (go_at_call 76; (with_reducible refine K.out.mono ?_); rintro e w' ⟨rfl, rfl⟩)
      go_ret2
      exact FIN.out
  · have hE : lvErr i n = 0 := by unfold lvErr; rw [if_neg (by omega), if_neg (by omega)]
    have l1 : 0 ≤ n := by omega
    have l2 : n ≤ 63 := by omega
    have l3 : ¬ n < 0 := by omega
    have l4 : ¬ 63 < n := by omega
    by_cases hs : 2 * n < 64
    · have x1 : 2 * n - 63 < 0 := by omega
      have hV : lvV i n = -lvPos 64 (64 - 1 - n) := by unfold lvV; rw [if_pos hE, hM, if_pos hs]
      have q := sq_le (64 + (2 * n - 63)) 128 (by omega) (by omega) (by omega)
      obtain ⟨q1, q2, q3, q4⟩ := q
      have q5 := Int.ediv_nonneg q3 (show 0 ≤ (64 * 64 : Int) by decide)
      have q6 : 31000 * (64 + (2 * n - 63)) * (64 + (2 * n - 63)) / (64 * 64) ≤ 507904000 := by omega
      have hP : lvPos 64 (64 - 1 - n) = 31000 - 31000 * (64 + (2 * n - 63)) * (64 + (2 * n - 63)) / (64 * 64) := by
        unfold lvPos
        rw [show 2 * ((64 : Int) - (64 - 1 - n)) - 1 = 64 + (2 * n - 63) by omega]
      have FIN : LvAns i n w (.returned (.tuple #[.int .i64 (-(31000 - 31000 * (64 + (2 * n - 63)) * (64 + (2 * n - 63)) / (64 * 64))), .int .i64 0])) w := ⟨by rw [hE, hV, hP], rfl⟩
      have FIN := hid FIN
      clear hw hM hE hV hP h1 hs
      go_enter Tryd.func46, Tryd.ntmps46
      go_wp2_with (go_at_call 76; (with_reducible refine K.out.mono ?_); rintro e w' ⟨rfl, rfl⟩)
      go_ret2
      exact FIN.out
    · have x1 : ¬ 2 * n - 63 < 0 := by omega
      have hV : lvV i n = lvPos 64 n := by unfold lvV; rw [if_pos hE, hM, if_neg hs]
      have q := sq_le (64 - (2 * n - 63)) 128 (by omega) (by omega) (by omega)
      obtain ⟨q1, q2, q3, q4⟩ := q
      have q5 := Int.ediv_nonneg q3 (show 0 ≤ (64 * 64 : Int) by decide)
      have q6 : 31000 * (64 - (2 * n - 63)) * (64 - (2 * n - 63)) / (64 * 64) ≤ 507904000 := by omega
      have hP : lvPos 64 n = 31000 - 31000 * (64 - (2 * n - 63)) * (64 - (2 * n - 63)) / (64 * 64) := by
        unfold lvPos
        rw [show 2 * ((64 : Int) - n) - 1 = 64 - (2 * n - 63) by omega]
      have FIN : LvAns i n w (.returned (.tuple #[.int .i64 (31000 - 31000 * (64 - (2 * n - 63)) * (64 - (2 * n - 63)) / (64 * 64)), .int .i64 0])) w := ⟨by rw [hE, hV, hP], rfl⟩
      have FIN := hid FIN
      clear hw hM hE hV hP h1 hs
      go_enter Tryd.func46, Tryd.ntmps46
      go_wp2_with (go_at_call 76; (with_reducible refine K.out.mono ?_); rintro e w' ⟨rfl, rfl⟩)
      go_ret2
      exact FIN.out
set_option maxHeartbeats 1000000 in
theorem quantLevel_5 (i n : Int) (w : World) (hw : widV i = 5) (K : Calls Tryd.prog 76 #[.int .i64 i] w fun e w' => e = .returned (.int .i64 (5)) ∧ w = w') :
    Calls Tryd.prog 46 #[.int .i64 i, .int .i64 n] w (LvAns i n w) := by
  have hM : lvM i = 32 := by unfold lvM; rw [hw]; rfl
  have K := hid K
  by_cases h1 : n < 0 ∨ 31 < n
  · have hE : lvErr i n = 2 := by unfold lvErr; rw [if_neg (by omega), if_pos (by omega)]
    have hV : lvV i n = 0 := by unfold lvV; rw [if_neg (by omega)]
    have FIN : LvAns i n w (.returned (.tuple #[.int .i64 0, .int .i64 2])) w := ⟨by rw [hE, hV], rfl⟩
    have FIN := hid FIN
    clear hw hM hE hV
    rcases h1 with h1 | h1
    · go_enter Tryd.func46, Tryd.ntmps46
      go_wp2_with (go_at_call 76; (with_reducible refine K.out.mono ?_); rintro e w' ⟨rfl, rfl⟩)
      go_ret2
      exact FIN.out
    · have h2 : ¬ n < 0 := by omega
      go_enter Tryd.func46, Tryd.ntmps46
      go_wp2_with (go_at_call 76; (with_reducible refine K.out.mono ?_); rintro e w' ⟨rfl, rfl⟩)
      go_ret2
      exact FIN.out
  · have hE : lvErr i n = 0 := by unfold lvErr; rw [if_neg (by omega), if_neg (by omega)]
    have l1 : 0 ≤ n := by omega
    have l2 : n ≤ 31 := by omega
    have l3 : ¬ n < 0 := by omega
    have l4 : ¬ 31 < n := by omega
    by_cases hs : 2 * n < 32
    · have x1 : 2 * n - 31 < 0 := by omega
      have hV : lvV i n = -lvPos 32 (32 - 1 - n) := by unfold lvV; rw [if_pos hE, hM, if_pos hs]
      have q := sq_le (32 + (2 * n - 31)) 128 (by omega) (by omega) (by omega)
      obtain ⟨q1, q2, q3, q4⟩ := q
      have q5 := Int.ediv_nonneg q3 (show 0 ≤ (32 * 32 : Int) by decide)
      have q6 : 31000 * (32 + (2 * n - 31)) * (32 + (2 * n - 31)) / (32 * 32) ≤ 507904000 := by omega
      have hP : lvPos 32 (32 - 1 - n) = 31000 - 31000 * (32 + (2 * n - 31)) * (32 + (2 * n - 31)) / (32 * 32) := by
        unfold lvPos
        rw [show 2 * ((32 : Int) - (32 - 1 - n)) - 1 = 32 + (2 * n - 31) by omega]
      have FIN : LvAns i n w (.returned (.tuple #[.int .i64 (-(31000 - 31000 * (32 + (2 * n - 31)) * (32 + (2 * n - 31)) / (32 * 32))), .int .i64 0])) w := ⟨by rw [hE, hV, hP], rfl⟩
      have FIN := hid FIN
      clear hw hM hE hV hP h1 hs
      go_enter Tryd.func46, Tryd.ntmps46
      go_wp2_with (go_at_call 76; (with_reducible refine K.out.mono ?_); rintro e w' ⟨rfl, rfl⟩)
      go_ret2
      exact FIN.out
    · have x1 : ¬ 2 * n - 31 < 0 := by omega
      have hV : lvV i n = lvPos 32 n := by unfold lvV; rw [if_pos hE, hM, if_neg hs]
      have q := sq_le (32 - (2 * n - 31)) 128 (by omega) (by omega) (by omega)
      obtain ⟨q1, q2, q3, q4⟩ := q
      have q5 := Int.ediv_nonneg q3 (show 0 ≤ (32 * 32 : Int) by decide)
      have q6 : 31000 * (32 - (2 * n - 31)) * (32 - (2 * n - 31)) / (32 * 32) ≤ 507904000 := by omega
      have hP : lvPos 32 n = 31000 - 31000 * (32 - (2 * n - 31)) * (32 - (2 * n - 31)) / (32 * 32) := by
        unfold lvPos
        rw [show 2 * ((32 : Int) - n) - 1 = 32 - (2 * n - 31) by omega]
      have FIN : LvAns i n w (.returned (.tuple #[.int .i64 (31000 - 31000 * (32 - (2 * n - 31)) * (32 - (2 * n - 31)) / (32 * 32)), .int .i64 0])) w := ⟨by rw [hE, hV, hP], rfl⟩
      have FIN := hid FIN
      clear hw hM hE hV hP h1 hs
      go_enter Tryd.func46, Tryd.ntmps46
      go_wp2_with (go_at_call 76; (with_reducible refine K.out.mono ?_); rintro e w' ⟨rfl, rfl⟩)
      go_ret2
      exact FIN.out
set_option maxHeartbeats 1000000 in
theorem quantLevel_4 (i n : Int) (w : World) (hw : widV i = 4) (K : Calls Tryd.prog 76 #[.int .i64 i] w fun e w' => e = .returned (.int .i64 (4)) ∧ w = w') :
    Calls Tryd.prog 46 #[.int .i64 i, .int .i64 n] w (LvAns i n w) := by
  have hM : lvM i = 16 := by unfold lvM; rw [hw]; rfl
  have K := hid K
  by_cases h1 : n < 0 ∨ 15 < n
  · have hE : lvErr i n = 2 := by unfold lvErr; rw [if_neg (by omega), if_pos (by omega)]
    have hV : lvV i n = 0 := by unfold lvV; rw [if_neg (by omega)]
    have FIN : LvAns i n w (.returned (.tuple #[.int .i64 0, .int .i64 2])) w := ⟨by rw [hE, hV], rfl⟩
    have FIN := hid FIN
    clear hw hM hE hV
    rcases h1 with h1 | h1
    · go_enter Tryd.func46, Tryd.ntmps46
      go_wp2_with (go_at_call 76; (with_reducible refine K.out.mono ?_); rintro e w' ⟨rfl, rfl⟩)
      go_ret2
      exact FIN.out
    · have h2 : ¬ n < 0 := by omega
      go_enter Tryd.func46, Tryd.ntmps46
      go_wp2_with (go_at_call 76; (with_reducible refine K.out.mono ?_); rintro e w' ⟨rfl, rfl⟩)
      go_ret2
      exact FIN.out
  · have hE : lvErr i n = 0 := by unfold lvErr; rw [if_neg (by omega), if_neg (by omega)]
    have l1 : 0 ≤ n := by omega
    have l2 : n ≤ 15 := by omega
    have l3 : ¬ n < 0 := by omega
    have l4 : ¬ 15 < n := by omega
    by_cases hs : 2 * n < 16
    · have x1 : 2 * n - 15 < 0 := by omega
      have hV : lvV i n = -lvPos 16 (16 - 1 - n) := by unfold lvV; rw [if_pos hE, hM, if_pos hs]
      have q := sq_le (16 + (2 * n - 15)) 128 (by omega) (by omega) (by omega)
      obtain ⟨q1, q2, q3, q4⟩ := q
      have q5 := Int.ediv_nonneg q3 (show 0 ≤ (16 * 16 : Int) by decide)
      have q6 : 31000 * (16 + (2 * n - 15)) * (16 + (2 * n - 15)) / (16 * 16) ≤ 507904000 := by omega
      have hP : lvPos 16 (16 - 1 - n) = 31000 - 31000 * (16 + (2 * n - 15)) * (16 + (2 * n - 15)) / (16 * 16) := by
        unfold lvPos
        rw [show 2 * ((16 : Int) - (16 - 1 - n)) - 1 = 16 + (2 * n - 15) by omega]
      have FIN : LvAns i n w (.returned (.tuple #[.int .i64 (-(31000 - 31000 * (16 + (2 * n - 15)) * (16 + (2 * n - 15)) / (16 * 16))), .int .i64 0])) w := ⟨by rw [hE, hV, hP], rfl⟩
      have FIN := hid FIN
      clear hw hM hE hV hP h1 hs
      go_enter Tryd.func46, Tryd.ntmps46
      go_wp2_with (go_at_call 76; (with_reducible refine K.out.mono ?_); rintro e w' ⟨rfl, rfl⟩)
      go_ret2
      exact FIN.out
    · have x1 : ¬ 2 * n - 15 < 0 := by omega
      have hV : lvV i n = lvPos 16 n := by unfold lvV; rw [if_pos hE, hM, if_neg hs]
      have q := sq_le (16 - (2 * n - 15)) 128 (by omega) (by omega) (by omega)
      obtain ⟨q1, q2, q3, q4⟩ := q
      have q5 := Int.ediv_nonneg q3 (show 0 ≤ (16 * 16 : Int) by decide)
      have q6 : 31000 * (16 - (2 * n - 15)) * (16 - (2 * n - 15)) / (16 * 16) ≤ 507904000 := by omega
      have hP : lvPos 16 n = 31000 - 31000 * (16 - (2 * n - 15)) * (16 - (2 * n - 15)) / (16 * 16) := by
        unfold lvPos
        rw [show 2 * ((16 : Int) - n) - 1 = 16 - (2 * n - 15) by omega]
      have FIN : LvAns i n w (.returned (.tuple #[.int .i64 (31000 - 31000 * (16 - (2 * n - 15)) * (16 - (2 * n - 15)) / (16 * 16)), .int .i64 0])) w := ⟨by rw [hE, hV, hP], rfl⟩
      have FIN := hid FIN
      clear hw hM hE hV hP h1 hs
      go_enter Tryd.func46, Tryd.ntmps46
      go_wp2_with (go_at_call 76; (with_reducible refine K.out.mono ?_); rintro e w' ⟨rfl, rfl⟩)
      go_ret2
      exact FIN.out
set_option maxHeartbeats 1000000 in
theorem quantLevel_3 (i n : Int) (w : World) (hw : widV i = 3) (K : Calls Tryd.prog 76 #[.int .i64 i] w fun e w' => e = .returned (.int .i64 (3)) ∧ w = w') :
    Calls Tryd.prog 46 #[.int .i64 i, .int .i64 n] w (LvAns i n w) := by
  have hM : lvM i = 8 := by unfold lvM; rw [hw]; rfl
  have K := hid K
  by_cases h1 : n < 0 ∨ 7 < n
  · have hE : lvErr i n = 2 := by unfold lvErr; rw [if_neg (by omega), if_pos (by omega)]
    have hV : lvV i n = 0 := by unfold lvV; rw [if_neg (by omega)]
    have FIN : LvAns i n w (.returned (.tuple #[.int .i64 0, .int .i64 2])) w := ⟨by rw [hE, hV], rfl⟩
    have FIN := hid FIN
    clear hw hM hE hV
    rcases h1 with h1 | h1
    · go_enter Tryd.func46, Tryd.ntmps46
      go_wp2_with (go_at_call 76; (with_reducible refine K.out.mono ?_); rintro e w' ⟨rfl, rfl⟩)
      go_ret2
      exact FIN.out
    · have h2 : ¬ n < 0 := by omega
      go_enter Tryd.func46, Tryd.ntmps46
      go_wp2_with (go_at_call 76; (with_reducible refine K.out.mono ?_); rintro e w' ⟨rfl, rfl⟩)
      go_ret2
      exact FIN.out
  · have hE : lvErr i n = 0 := by unfold lvErr; rw [if_neg (by omega), if_neg (by omega)]
    have l1 : 0 ≤ n := by omega
    have l2 : n ≤ 7 := by omega
    have l3 : ¬ n < 0 := by omega
    have l4 : ¬ 7 < n := by omega
    by_cases hs : 2 * n < 8
    · have x1 : 2 * n - 7 < 0 := by omega
      have hV : lvV i n = -lvPos 8 (8 - 1 - n) := by unfold lvV; rw [if_pos hE, hM, if_pos hs]
      have q := sq_le (8 + (2 * n - 7)) 128 (by omega) (by omega) (by omega)
      obtain ⟨q1, q2, q3, q4⟩ := q
      have q5 := Int.ediv_nonneg q3 (show 0 ≤ (8 * 8 : Int) by decide)
      have q6 : 31000 * (8 + (2 * n - 7)) * (8 + (2 * n - 7)) / (8 * 8) ≤ 507904000 := by omega
      have hP : lvPos 8 (8 - 1 - n) = 31000 - 31000 * (8 + (2 * n - 7)) * (8 + (2 * n - 7)) / (8 * 8) := by
        unfold lvPos
        rw [show 2 * ((8 : Int) - (8 - 1 - n)) - 1 = 8 + (2 * n - 7) by omega]
      have FIN : LvAns i n w (.returned (.tuple #[.int .i64 (-(31000 - 31000 * (8 + (2 * n - 7)) * (8 + (2 * n - 7)) / (8 * 8))), .int .i64 0])) w := ⟨by rw [hE, hV, hP], rfl⟩
      have FIN := hid FIN
      clear hw hM hE hV hP h1 hs
      go_enter Tryd.func46, Tryd.ntmps46
      go_wp2_with (go_at_call 76; (with_reducible refine K.out.mono ?_); rintro e w' ⟨rfl, rfl⟩)
      go_ret2
      exact FIN.out
    · have x1 : ¬ 2 * n - 7 < 0 := by omega
      have hV : lvV i n = lvPos 8 n := by unfold lvV; rw [if_pos hE, hM, if_neg hs]
      have q := sq_le (8 - (2 * n - 7)) 128 (by omega) (by omega) (by omega)
      obtain ⟨q1, q2, q3, q4⟩ := q
      have q5 := Int.ediv_nonneg q3 (show 0 ≤ (8 * 8 : Int) by decide)
      have q6 : 31000 * (8 - (2 * n - 7)) * (8 - (2 * n - 7)) / (8 * 8) ≤ 507904000 := by omega
      have hP : lvPos 8 n = 31000 - 31000 * (8 - (2 * n - 7)) * (8 - (2 * n - 7)) / (8 * 8) := by
        unfold lvPos
        rw [show 2 * ((8 : Int) - n) - 1 = 8 - (2 * n - 7) by omega]
      have FIN : LvAns i n w (.returned (.tuple #[.int .i64 (31000 - 31000 * (8 - (2 * n - 7)) * (8 - (2 * n - 7)) / (8 * 8)), .int .i64 0])) w := ⟨by rw [hE, hV, hP], rfl⟩
      have FIN := hid FIN
      clear hw hM hE hV hP h1 hs
      go_enter Tryd.func46, Tryd.ntmps46
      go_wp2_with (go_at_call 76; (with_reducible refine K.out.mono ?_); rintro e w' ⟨rfl, rfl⟩)
      go_ret2
      exact FIN.out

theorem lvErr_out {i n : Int} (h : widV i = 0) : lvErr i n = 4 := by unfold lvErr; rw [if_pos h]
theorem lvV_out {i n : Int} (h : widV i = 0) : lvV i n = 0 := by unfold lvV; rw [lvErr_out h]; rfl

set_option maxHeartbeats 1000000 in
theorem quantLevel_0 (i n : Int) (w : World) (hw : widV i = 0) (K : Calls Tryd.prog 76 #[.int .i64 i] w fun e w' => e = .returned (.int .i64 0) ∧ w = w') :
    Calls Tryd.prog 46 #[.int .i64 i, .int .i64 n] w (LvAns i n w) := by
  have FIN : LvAns i n w (.returned (.tuple #[.int .i64 0, .int .i64 4])) w := ⟨by rw [lvErr_out hw, lvV_out hw], rfl⟩
  have FIN := hid FIN
  have K := hid K
  clear hw
  go_enter Tryd.func46, Tryd.ntmps46
  go_wp2_with (go_at_call 76; (with_reducible refine K.out.mono ?_); rintro e w' ⟨rfl, rfl⟩)
  go_ret2
  exact FIN.out
theorem quantLevel_any (i n : Int) (w : World) (T : TabA w 1 widthL) :
    Calls Tryd.prog 46 #[.int .i64 i, .int .i64 n] w (LvAns i n w) := by
  have K := quantWidth_any i w T
  rcases widV_cases i with ⟨h, _⟩ | ⟨h, _⟩ | ⟨h, _⟩ | ⟨h, _⟩ | ⟨h, _⟩
  · rw [h] at K; exact quantLevel_0 i n w h K
  · rw [h] at K; exact quantLevel_6 i n w h K
  · rw [h] at K; exact quantLevel_5 i n w h K
  · rw [h] at K; exact quantLevel_4 i n w h K
  · rw [h] at K; exact quantLevel_3 i n w h K

end Go.Proofs.YthoiikkjjaldnaaDoor

/- Plain facts on the rounds that find the reflections. No program in sight. -/
namespace Go.Proofs.YthoiikkjjaldnaaDoor
set_option linter.unusedVariables false
set_option linter.unusedSimpArgs false
set_option maxRecDepth 100000

def okS (x : Int) : Bool := decide (-2147483647 ≤ x ∧ x ≤ 2147483647)
theorem okS_yes {x : Int} (h1 : -2147483647 ≤ x) (h2 : x ≤ 2147483647) : okS x = true := by unfold okS; simp; omega
theorem okS_no {x : Int} (h : x < -2147483647 ∨ 2147483647 < x) : okS x = false := by unfold okS; simp; omega
/-- The reflections, what is left, whether it came to the end. -/
def levR (r : List Int) : List Int × Int × Bool := if r.all okS = false ∨ r.getD 0 0 ≤ 0 then ([], 0, false) else lev r 8 1 [16777216] (r.getD 0 0) []
theorem levR_bad {r : List Int} (h : r.all okS = false) : levR r = ([], 0, false) := by unfold levR; rw [if_pos (.inl h)]
theorem levR_low {r : List Int} (h : r.getD 0 0 ≤ 0) : levR r = ([], 0, false) := by unfold levR; rw [if_pos (.inr h)]
theorem levR_go {r : List Int} (h : r.all okS = true) (h2 : 0 < r.getD 0 0) : levR r = lev r 8 1 [16777216] (r.getD 0 0) [] := by unfold levR; rw [if_neg (by rintro (h3 | h3); (rw [h] at h3; cases h3); omega)]
theorem okS_within {r : List Int} (h : r.all okS = true) : Within 2147483647 r := by
  intro i
  by_cases hi : i < r.length
  · have := all_at h i hi
    unfold okS at this
    simpa using this
  · rw [List.getD_eq_getElem?_getD, List.getElem?_eq_none (by omega)]; simp

/-- What holds ahead of round m (from 1 on). -/
structure LevSt (r : List Int) (m : Nat) (al : List Int) (e : Int) (k : List Int) : Prop where
  run : levR r = lev r (9 - m) m al e k
  la : al.length = m
  lk : k.length + 1 = m
  bd : Within (16777216 * 2 ^ (m - 1)) al
  e0 : 0 < e
  e1 : e ≤ 2147483647

theorem LevSt.start {r : List Int} (h : r.all okS = true) (h2 : 0 < r.getD 0 0) : LevSt r 1 [16777216] (r.getD 0 0) [] :=
  ⟨levR_go h h2, rfl, rfl, by
    intro i
    match i with
    | 0 => simp
    | i + 1 => simp, h2, (okS_within h 0).2⟩
theorem LevSt.bnd {r : List Int} {m : Nat} {al k : List Int} {e : Int} (h : LevSt r m al e k) (hm : m ≤ 9) : Within 4294967296 al := by
  intro i
  have h1 := h.bd i
  have h2 : (2 : Nat) ^ (m - 1) ≤ 2 ^ 8 := Nat.pow_le_pow_right (by decide) (by omega)
  have h3 : ((2 ^ (m - 1) : Nat) : Int) = 2 ^ (m - 1) := by simp
  omega
theorem LevSt.fin {r al k : List Int} {e : Int} (h : LevSt r 9 al e k) : levR r = (k, e, true) := h.run
section
variable {r al k : List Int} {m : Nat} {e q : Int}
theorem LevSt.stop (h : LevSt r m al e k) (h1 : 1 ≤ m) (hm : m ≤ 8) (hq : q = (-lacc al r m * 32768).tdiv e) (hb : q ≤ -32000 ∨ 32000 ≤ q) : levR r = (k, e, false) := by
  rw [h.run, show 9 - m = (8 - m) + 1 from by omega, lev_step r (8 - m) m al e k q _ hq rfl, if_pos hb]
theorem LevSt.none_ (h : LevSt r m al e k) (h1 : 1 ≤ m) (hm : m ≤ 8) (hq : q = (-lacc al r m * 32768).tdiv e) (hb : -32000 < q) (hb2 : q < 32000) (he : e - e * q / 32768 * q / 32768 ≤ 0) : levR r = (k ++ [q], 0, false) := by
  rw [h.run, show 9 - m = (8 - m) + 1 from by omega, lev_step r (8 - m) m al e k q _ hq rfl, if_neg (by omega), if_pos he]
theorem LevSt.next (h : LevSt r m al e k) (h1 : 1 ≤ m) (hm : m ≤ 8) (hq : q = (-lacc al r m * 32768).tdiv e) (hb : -32000 < q) (hb2 : q < 32000) (he : 0 < e - e * q / 32768 * q / 32768) :
    LevSt r (m + 1) (growL al q m) (e - e * q / 32768 * q / 32768) (k ++ [q]) := by
  have hE := e_bound h.e0 h.e1 hb hb2
  refine ⟨?_, growL_len _ _ _, by have := h.lk; simp; omega, ?_, he, by have := h.e1; omega⟩
  · rw [h.run, show 9 - m = (8 - m) + 1 from by omega, lev_step r (8 - m) m al e k q _ hq rfl, if_neg (by omega), if_neg (by omega), show 9 - (m + 1) = 8 - m from by omega]
  · have h2 := Within.grow (m := m) (by have : (0 : Int) < 2 ^ (m - 1) := Int.pow_pos (by decide); omega) h.bd ⟨by omega, by omega⟩ (q := q)
    have e2 : (16777216 : Int) * 2 ^ (m + 1 - 1) = 2 * (16777216 * 2 ^ (m - 1)) := by
      rw [show m + 1 - 1 = (m - 1) + 1 from by omega, Int.pow_succ]; omega
    rw [e2]
    exact h2
end

/-- The array of the program holds the list, noughts behind it. -/
def Arr9 (arr al : List Int) : Prop := arr.length = 9 ∧ ∀ j, arr.getD j 0 = al.getD j 0
/-- Ahead of round i: the numbers below i are the next predictor's. -/
def LevMid (al zs : List Int) (q : Int) (m i : Nat) : Prop := zs.length = 9 ∧ ∀ j, zs.getD j 0 = if j < i then (growL al q m).getD j 0 else al.getD j 0
theorem LevMid.start {arr al : List Int} {q : Int} {m : Nat} (h : Arr9 arr al) : LevMid al arr q m 1 := ⟨h.1, fun j => by
  rw [h.2 j]
  split
  · obtain rfl : j = 0 := by omega
    rw [growL_get _ _ _ _ (by omega), if_pos rfl]
  · rfl⟩
theorem LevMid.step {al zs : List Int} {q : Int} {m i : Nat} (h : LevMid al zs q m i) (h0 : 1 ≤ i) (hi : i ≤ m) (h9 : i < 9) :
    LevMid al (zs.set i (al.getD i 0 + q * al.getD (m - i) 0 / 32768)) q m (i + 1) := by
  refine ⟨by simpa using h.1, fun j => ?_⟩
  by_cases he : i = j
  · subst he
    rw [List.getD_eq_getElem?_getD, List.getElem?_set_self (by rw [h.1]; exact h9), if_pos (by omega), growL_get _ _ _ _ hi, if_neg (by omega)]
    rfl
  · have e : (zs.set i (al.getD i 0 + q * al.getD (m - i) 0 / 32768)).getD j 0 = zs.getD j 0 := by
      simp [he]
    rw [e, h.2 j]
    by_cases hj : j < i
    · rw [if_pos hj, if_pos (by omega)]
    · rw [if_neg hj, if_neg (by omega)]
theorem LevMid.fin {al zs : List Int} {q : Int} {m : Nat} (h : LevMid al zs q m (m + 1)) (hl : al.length = m) : Arr9 zs (growL al q m) := ⟨h.1, fun j => by
  rw [h.2 j]
  split
  · rfl
  · rw [List.getD_eq_getElem?_getD, List.getElem?_eq_none (by omega), List.getD_eq_getElem?_getD, List.getElem?_eq_none (by rw [growL_len]; omega)]⟩

/-- The part of a step's sum. -/
def lterm (al r : List Int) (m i : Nat) : Int := al.getD i 0 / 512 * r.getD (m - i) 0 / 32768
theorem lacc_eq (al r : List Int) (m : Nat) : lacc al r m = sumN (lterm al r m) m := rfl
theorem lterm_bound {al r : List Int} {m : Nat} (ha : Within 4294967296 al) (hr : Within 2147483647 r) (i : Nat) :
    (-8388608 ≤ al.getD i 0 / 512 ∧ al.getD i 0 / 512 ≤ 8388608) ∧ (-18014398509481984 ≤ al.getD i 0 / 512 * r.getD (m - i) 0 ∧ al.getD i 0 / 512 * r.getD (m - i) 0 ≤ 18014398509481984) ∧ (-549755813888 ≤ lterm al r m i ∧ lterm al r m i ≤ 549755813888) := by
  have h1 := ha i
  have h2 := hr (m - i)
  have h3 := mul_bound (x := al.getD i 0 / 512) (X := 8388608) (y := r.getD (m - i) 0) (Y := 2147483647) (by omega) (by omega) (by omega) h2
  unfold lterm
  omega
theorem lsum_bound {al r : List Int} {m : Nat} (ha : Within 4294967296 al) (hr : Within 2147483647 r) (i : Nat) (hi : i ≤ 8) : -4398046511104 ≤ sumN (lterm al r m) i ∧ sumN (lterm al r m) i ≤ 4398046511104 := by
  have h := sumN_bound (f := lterm al r m) (B := 549755813888) i (fun j _ => (lterm_bound ha hr j).2.2)
  have : (549755813888 : Int) * i ≤ 549755813888 * 8 := by omega
  omega
end Go.Proofs.YthoiikkjjaldnaaDoor
