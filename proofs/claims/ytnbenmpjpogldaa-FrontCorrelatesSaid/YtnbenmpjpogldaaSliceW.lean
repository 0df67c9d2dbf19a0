/- The walks of the functions on slices that many statements call: ints, Same, right, Right, sat. -/
import Derived.Test.YtnbenmpjpogldaaPush
import Derived.Test.YtnbenmpjpogldaaNumA
import Derived.Test.YtnbenmpjpogldaaLpcM
import Derived.Test.YtnbenmpjpogldaaGrownW
import Derived.BigQuiet
import Derived.Deep.QuietTactic
namespace Go.Proofs.Ytnbenmpjpogldaa
set_option linter.unusedVariables false
set_option linter.unusedSimpArgs false
set_option maxRecDepth 100000
open Go.RowKit

/-- Is it a number of 16 bits? -/
def ok16 (x : Int) : Bool := decide (-32768 ≤ x ∧ x ≤ 32767)
theorem ok16_yes {x : Int} (h1 : -32768 ≤ x) (h2 : x ≤ 32767) : ok16 x = true := by unfold ok16; simp; omega
theorem ok16_no {x : Int} (h : x < -32768 ∨ 32767 < x) : ok16 x = false := by unfold ok16; simp; omega
def all16 (xs : List Int) : Bool := xs.all ok16
theorem all16_at {xs : List Int} (h : all16 xs = true) (i : Nat) : -32768 ≤ xs.getD i 0 ∧ xs.getD i 0 ≤ 32767 := by
  by_cases hi : i < xs.length
  · have := all_at h i hi
    unfold ok16 at this
    simpa using this
  · rw [List.getD_eq_getElem?_getD, List.getElem?_eq_none (by omega)]; simp
/-- A function that answers a Bool and makes new memory at most. -/
def AnsB' (w : World) (b : Bool) (e : Ending) (w' : World) : Prop := e = .returned (.bool b) ∧ Below w.heap.size w w'
theorem s16_id {x : Int} (h1 : -32768 ≤ x) (h2 : x ≤ 32767) : s16 x = x := by unfold s16 lim; rw [if_neg (by omega), if_neg (by omega)]
theorem s16_ne {x : Int} (h : x < -32768 ∨ 32767 < x) : s16 x ≠ x := by have := s16_range x; omega

theorem ints_any (A : Option Addr) (c : Nat) (xs : List Int) (w : World) (hr : Rs w w.heap.size A xs) (hl : xs.length ≤ 17592186044416) :
    Calls Try.prog 5 #[.slice A xs.length c] w (NewS w xs) := by
  have HR := hid hr
  clear hr
  go_enter Try.func5, Try.ntmps5
  go_wp2_with (at_builtin; refine wpList_cat rfl (.const (.slice none 0 0)) (.tmp 3) rfl w.heap.size none 0 [] rfl Own.nil w.heap.size A c xs rfl HR.out (by simpa using hl) (Nat.le_refl _) ?_; intro A1 c1 w1 hO hG hA; simp only [List.nil_append] at hO; have O1 := hid hO; have B1 := hid ((Below.refl w.heap.size w).grown hG (Nat.le_refl _) (by simp)); clear hO hG hA)
  go_ret
  exact ⟨A1, c1, by simp, O1.out, B1.out⟩


theorem frontsat_any (x : Int) (w : World) : Calls Try.prog 19 #[.int .i64 x] w fun e w' => e = .returned (.int .i64 (s16 x)) ∧ w = w' := by
  go_enter Try.func19, Try.ntmps19
  go_wp2_with (go_at_call 29; refine (sat16_any _ _).mono ?_; rintro e w' ⟨rfl, rfl⟩)
  go_ret
  exact ⟨rfl, rfl⟩
set_option maxHeartbeats 1000000 in
theorem frontright_any (A : Option Addr) (c n B : Nat) (xs : List Int) (w : World) (hr : Rs w B A xs) (hn : xs.length = n) (hl : n ≤ 17592186044416) :
    Calls Try.prog 7 #[.slice A n c] w fun e w' => e = .returned (.bool (all16 xs)) ∧ w = w' := by
  have HR := hid hr
  have HN := hid hn
  clear hr hn
  go_enter Try.func7, Try.ntmps7
  go_wp2
  go_loop [7] (fun iv => ∃ k : Nat, k ≤ n ∧ iv = .int .i64 k ∧ Hid (allTo ok16 xs k)) (fun iv => n - (intOf iv).toNat)
  case atStart => exact ⟨0, by omega, rfl, hid allTo.zero⟩
  case round =>
    obtain ⟨k, hk, rfl, HY⟩ := hrel
    by_cases hlt : k < n
    · obtain ⟨ad, rfl, _, c1⟩ := HR.out.at_ (k := k) (by rw [HN.out]; exact hlt)
      obtain ⟨x, hx⟩ : ∃ x, x = xs.getD k 0 := ⟨_, rfl⟩
      rw [← hx] at c1
      have HX := hid hx
      clear hx
      by_cases hbad : x < -32768 ∨ 32767 < x
      · have HF := hid (show all16 xs = false from all_no (i := k) (by rw [HN.out]; exact hlt) (ok16_no (by rw [← HX.out]; exact hbad)))
        have e1 : (x == s16 x) = false := by rw [beq_eq_false_iff_ne]; exact fun h => s16_ne hbad h.symm
        have e2 : (x != s16 x) = true := by rw [bne_iff_ne]; exact fun h => s16_ne hbad h.symm
        clear hbad
        go_wp2_with (go_at_call 19; refine (frontsat_any _ _).mono ?_; rintro e w' ⟨rfl, rfl⟩)
        go_ret
        exact ⟨by rw [HF.out]; rfl, rfl⟩
      · have HN2 := hid (HY.out.succ (by rw [← HX.out]; exact ok16_yes (by omega) (by omega)))
        have e0 := s16_id (x := x) (by omega) (by omega)
        clear hbad
        go_wp2_with (go_at_call 19; refine (frontsat_any _ _).mono ?_; rintro e w' ⟨rfl, rfl⟩)
        go_round
        case rel => exact ⟨k + 1, by omega, by go_num, HN2⟩
        case measure => simp [intOf] <;> omega
    · have HF := hid (show all16 xs = true from HY.out.all (by rw [HN.out]; omega))
      go_wp2
      go_ret
      exact ⟨by rw [HF.out]; rfl, rfl⟩

set_option maxHeartbeats 1000000 in
theorem Right_any (A : Option Addr) (c n B : Nat) (xs : List Int) (w : World) (hr : Rs w B A xs) (hn : xs.length = n) (hl : n ≤ 17592186044416) :
    Calls Try.prog 9 #[.slice A n c] w fun e w' => e = .returned (.bool (all16 xs)) ∧ w = w' := by
  have HR := hid hr
  have HN := hid hn
  clear hr hn
  go_enter Try.func9, Try.ntmps9
  go_wp2
  go_loop [7] (fun iv => ∃ k : Nat, k ≤ n ∧ iv = .int .i64 k ∧ Hid (allTo ok16 xs k)) (fun iv => n - (intOf iv).toNat)
  case atStart => exact ⟨0, by omega, rfl, hid allTo.zero⟩
  case round =>
    obtain ⟨k, hk, rfl, HY⟩ := hrel
    by_cases hlt : k < n
    · obtain ⟨ad, rfl, _, c1⟩ := HR.out.at_ (k := k) (by rw [HN.out]; exact hlt)
      obtain ⟨x, hx⟩ : ∃ x, x = xs.getD k 0 := ⟨_, rfl⟩
      rw [← hx] at c1
      have HX := hid hx
      clear hx
      by_cases b1 : x < -32768
      · have HF := hid (show all16 xs = false from all_no (i := k) (by rw [HN.out]; exact hlt) (ok16_no (by rw [← HX.out]; exact .inl b1)))
        go_wp2
        go_ret
        exact ⟨by rw [HF.out]; rfl, rfl⟩
      by_cases b2 : 32767 < x
      · have HF := hid (show all16 xs = false from all_no (i := k) (by rw [HN.out]; exact hlt) (ok16_no (by rw [← HX.out]; exact .inr b2)))
        go_wp2
        go_ret
        exact ⟨by rw [HF.out]; rfl, rfl⟩
      have HN2 := hid (HY.out.succ (by rw [← HX.out]; exact ok16_yes (by omega) (by omega)))
      go_wp2
      go_round
      case rel => exact ⟨k + 1, by omega, by go_num, HN2⟩
      case measure => simp [intOf] <;> omega
    · have HF := hid (show all16 xs = true from HY.out.all (by rw [HN.out]; omega))
      go_wp2
      go_ret
      exact ⟨by rw [HF.out]; rfl, rfl⟩
end Go.Proofs.Ytnbenmpjpogldaa
