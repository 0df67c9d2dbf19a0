/- Texts that the law rests on, laid together: GrownW, SliceW, PastW. -/
import Derived.Test.YthoiikkjjaldnaaDoorZ10bfcc
import Derived.Test.YthoiikkjjaldnaaDoorZ104825
import Derived.Test.YthoiikkjjaldnaaDoorZ6b4648
import Derived.IntWalk
import Derived.Test.YthoiikkjjaldnaaDoorZ7ba9e8
import Derived.BigQuiet
import Derived.Deep.QuietTactic
import Derived.Test.YthoiikkjjaldnaaDoorZe90ea5
/- The walks of the reference's at, grown. -/
namespace Go.Proofs.YthoiikkjjaldnaaDoor
set_option linter.unusedVariables false
set_option linter.unusedSimpArgs false
set_option maxRecDepth 100000
open Go.RowKit

theorem Rs.drew {w : World} {B : Nat} {A : Option Addr} {xs : List Int} (h : Rs w B A xs) : Rs w.drew B A xs := h
theorem Rs.drewN {w : World} {B : Nat} {A : Option Addr} {xs : List Int} (h : Rs w B A xs) (n : Nat) : Rs (w.drewN n) B A xs := h

/-- A slice of numbers in new memory. -/
def NewS (w : World) (xs : List Int) (e : Ending) (w' : World) : Prop := ∃ A c, e = .returned (.slice A xs.length c) ∧ Own w' w.heap.size A c xs ∧ Below w.heap.size w w'

/-- Ahead of round i: the numbers below i are the new predictor's. -/
def GrowMid (a zs : List Int) (q : Int) (m i : Nat) : Prop := zs.length = m + 1 ∧ ∀ j, j ≤ m → zs.getD j 0 = if j < i then (growL a q m).getD j 0 else a.getD j 0

theorem GrowMid.step {a zs : List Int} {q : Int} {m i : Nat} (h : GrowMid a zs q m i) (h0 : 1 ≤ i) (hi : i ≤ m) :
    GrowMid a (zs.set i (a.getD i 0 + q * a.getD (m - i) 0 / 32768)) q m (i + 1) := by
  refine ⟨by simpa using h.1, fun j hj => ?_⟩
  by_cases he : i = j
  · subst he
    rw [get_set_same _ _ _ (by rw [h.1]; omega), if_pos (by omega), growL_get _ _ _ _ hi, if_neg (by omega)]
  · rw [get_set_other _ _ he, h.2 j hj]
    by_cases h2 : j < i
    · rw [if_pos h2, if_pos (by omega)]
    · rw [if_neg h2, if_neg (by omega)]
end Go.Proofs.YthoiikkjjaldnaaDoor

/- The walks of the functions on slices that many statements call: ints, Same, right, Right, sat. -/
namespace Go.Proofs.YthoiikkjjaldnaaDoor
set_option linter.unusedVariables false
set_option linter.unusedSimpArgs false
set_option maxRecDepth 100000
open Go.RowKit

/-- Is it a number of 16 bits? -/
def ok16 (x : Int) : Bool := decide (-32768 ≤ x ∧ x ≤ 32767)
theorem ok16_yes {x : Int} (h1 : -32768 ≤ x) (h2 : x ≤ 32767) : ok16 x = true := by unfold ok16; simp; omega
theorem ok16_no {x : Int} (h : x < -32768 ∨ 32767 < x) : ok16 x = false := by unfold ok16; simp; omega
def all16 (xs : List Int) : Bool := xs.all ok16
theorem all16_at {xs : List Int} (h : all16 xs = true) (i : Nat) : -32768 ≤ xs.getD i 0 ∧ xs.getD i 0 ≤ 32767 := by
  by_cases hi : i < xs.length
  · have := all_at h i hi
    unfold ok16 at this
    simpa using this
  · rw [List.getD_eq_getElem?_getD, List.getElem?_eq_none (by omega)]; simp
/-- A function that answers a Bool and makes new memory at most. -/
def AnsB' (w : World) (b : Bool) (e : Ending) (w' : World) : Prop := e = .returned (.bool b) ∧ Below w.heap.size w w'
theorem s16_id {x : Int} (h1 : -32768 ≤ x) (h2 : x ≤ 32767) : s16 x = x := by unfold s16 lim; rw [if_neg (by omega), if_neg (by omega)]
theorem s16_ne {x : Int} (h : x < -32768 ∨ 32767 < x) : s16 x ≠ x := by have := s16_range x; omega



theorem frontsat_any (x : Int) (w : World) : Calls Tryd.prog 43 #[.int .i64 x] w fun e w' => e = .returned (.int .i64 (s16 x)) ∧ w = w' := by
  go_enter Tryd.func43, Tryd.ntmps43
  go_wp2_with (go_at_call 75; refine (sat16_any _ _).mono ?_; rintro e w' ⟨rfl, rfl⟩)
  go_ret
  exact ⟨rfl, rfl⟩
theorem pitchsat_any (x : Int) (w : World) : Calls Tryd.prog 93 #[.int .i64 x] w fun e w' => e = .returned (.int .i64 (s16 x)) ∧ w = w' := by
  go_enter Tryd.func93, Tryd.ntmps93
  go_wp2_with (go_at_call 75; refine (sat16_any _ _).mono ?_; rintro e w' ⟨rfl, rfl⟩)
  go_ret
  exact ⟨rfl, rfl⟩
theorem pulsessat_any (x : Int) (w : World) : Calls Tryd.prog 85 #[.int .i64 x] w fun e w' => e = .returned (.int .i64 (s16 x)) ∧ w = w' := by
  go_enter Tryd.func85, Tryd.ntmps85
  go_wp2_with (go_at_call 75; refine (sat16_any _ _).mono ?_; rintro e w' ⟨rfl, rfl⟩)
  go_ret
  exact ⟨rfl, rfl⟩
theorem concealsat_any (x : Int) (w : World) : Calls Tryd.prog 41 #[.int .i64 x] w fun e w' => e = .returned (.int .i64 (s16 x)) ∧ w = w' := by
  go_enter Tryd.func41, Tryd.ntmps41
  go_wp2_with (go_at_call 75; refine (sat16_any _ _).mono ?_; rintro e w' ⟨rfl, rfl⟩)
  go_ret
  exact ⟨rfl, rfl⟩
theorem synthsat_any (x : Int) (w : World) : Calls Tryd.prog 78 #[.int .i64 x] w fun e w' => e = .returned (.int .i64 (s16 x)) ∧ w = w' := by
  go_enter Tryd.func78, Tryd.ntmps78
  go_wp2_with (go_at_call 75; refine (sat16_any _ _).mono ?_; rintro e w' ⟨rfl, rfl⟩)
  go_ret
  exact ⟨rfl, rfl⟩
theorem codersat_any (x : Int) (w : World) : Calls Tryd.prog 81 #[.int .i64 x] w fun e w' => e = .returned (.int .i64 (s16 x)) ∧ w = w' := by
  go_enter Tryd.func81, Tryd.ntmps81
  go_wp2_with (go_at_call 75; refine (sat16_any _ _).mono ?_; rintro e w' ⟨rfl, rfl⟩)
  go_ret
  exact ⟨rfl, rfl⟩
set_option maxHeartbeats 1000000 in
theorem frontright_any (A : Option Addr) (c n B : Nat) (xs : List Int) (w : World) (hr : Rs w B A xs) (hn : xs.length = n) (hl : n ≤ 17592186044416) :
    Calls Tryd.prog 42 #[.slice A n c] w fun e w' => e = .returned (.bool (all16 xs)) ∧ w = w' := by
  have HR := hid hr
  have HN := hid hn
  clear hr hn
  go_enter Tryd.func42, Tryd.ntmps42
  go_wp2
  go_loop [7] (fun iv => ∃ k : Nat, k ≤ n ∧ iv = .int .i64 k ∧ Hid (allTo ok16 xs k)) (fun iv => n - (intOf iv).toNat)
  case atStart => exact ⟨0, by omega, rfl, hid allTo.zero⟩
  case round =>
    obtain ⟨k, hk, rfl, HY⟩ := hrel
    by_cases hlt : k < n
    · obtain ⟨ad, rfl, _, c1⟩ := HR.out.at_ (k := k) (by rw [HN.out]; exact hlt)
      obtain ⟨x, hx⟩ : ∃ x, x = xs.getD k 0 := ⟨_, rfl⟩
      rw [← hx] at c1
      have HX := hid hx
      clear hx
      by_cases hbad : x < -32768 ∨ 32767 < x
      · have HF := hid (show all16 xs = false from all_no (i := k) (by rw [HN.out]; exact hlt) (ok16_no (by rw [← HX.out]; exact hbad)))
        have e1 : (x == s16 x) = false := by rw [beq_eq_false_iff_ne]; exact fun h => s16_ne hbad h.symm
        have e2 : (x != s16 x) = true := by rw [bne_iff_ne]; exact fun h => s16_ne hbad h.symm
        clear hbad
        go_wp2_with (go_at_call 43; refine (frontsat_any _ _).mono ?_; rintro e w' ⟨rfl, rfl⟩)
        go_ret
        exact ⟨by rw [HF.out]; rfl, rfl⟩
      · have HN2 := hid (HY.out.succ (by rw [← HX.out]; exact ok16_yes (by omega) (by omega)))
        have e0 := s16_id (x := x) (by omega) (by omega)
        clear hbad
        go_wp2_with (go_at_call 43; refine (frontsat_any _ _).mono ?_; rintro e w' ⟨rfl, rfl⟩)
        go_round
        case rel => exact ⟨k + 1, by omega, by go_num, HN2⟩
        case measure => simp [intOf] <;> omega
    · have HF := hid (show all16 xs = true from HY.out.all (by rw [HN.out]; omega))
      go_wp2
      go_ret
      exact ⟨by rw [HF.out]; rfl, rfl⟩
set_option maxHeartbeats 1000000 in
theorem pitchright_any (A : Option Addr) (c n B : Nat) (xs : List Int) (w : World) (hr : Rs w B A xs) (hn : xs.length = n) (hl : n ≤ 17592186044416) :
    Calls Tryd.prog 82 #[.slice A n c] w fun e w' => e = .returned (.bool (all16 xs)) ∧ w = w' := by
  have HR := hid hr
  have HN := hid hn
  clear hr hn
  go_enter Tryd.func82, Tryd.ntmps82
  go_wp2
  go_loop [7] (fun iv => ∃ k : Nat, k ≤ n ∧ iv = .int .i64 k ∧ Hid (allTo ok16 xs k)) (fun iv => n - (intOf iv).toNat)
  case atStart => exact ⟨0, by omega, rfl, hid allTo.zero⟩
  case round =>
    obtain ⟨k, hk, rfl, HY⟩ := hrel
    by_cases hlt : k < n
    · obtain ⟨ad, rfl, _, c1⟩ := HR.out.at_ (k := k) (by rw [HN.out]; exact hlt)
      obtain ⟨x, hx⟩ : ∃ x, x = xs.getD k 0 := ⟨_, rfl⟩
      rw [← hx] at c1
      have HX := hid hx
      clear hx
      by_cases hbad : x < -32768 ∨ 32767 < x
      · have HF := hid (show all16 xs = false from all_no (i := k) (by rw [HN.out]; exact hlt) (ok16_no (by rw [← HX.out]; exact hbad)))
        have e1 : (x == s16 x) = false := by rw [beq_eq_false_iff_ne]; exact fun h => s16_ne hbad h.symm
        have e2 : (x != s16 x) = true := by rw [bne_iff_ne]; exact fun h => s16_ne hbad h.symm
        clear hbad
        go_wp2_with (go_at_call 93; refine (pitchsat_any _ _).mono ?_; rintro e w' ⟨rfl, rfl⟩)
        go_ret
        exact ⟨by rw [HF.out]; rfl, rfl⟩
      · have HN2 := hid (HY.out.succ (by rw [← HX.out]; exact ok16_yes (by omega) (by omega)))
        have e0 := s16_id (x := x) (by omega) (by omega)
        clear hbad
        go_wp2_with (go_at_call 93; refine (pitchsat_any _ _).mono ?_; rintro e w' ⟨rfl, rfl⟩)
        go_round
        case rel => exact ⟨k + 1, by omega, by go_num, HN2⟩
        case measure => simp [intOf] <;> omega
    · have HF := hid (show all16 xs = true from HY.out.all (by rw [HN.out]; omega))
      go_wp2
      go_ret
      exact ⟨by rw [HF.out]; rfl, rfl⟩

end Go.Proofs.YthoiikkjjaldnaaDoor

/- The walks of Past, the program's and the reference's. -/
namespace Go.Proofs.YthoiikkjjaldnaaDoor
set_option linter.unusedVariables false
set_option linter.unusedSimpArgs false
set_option maxRecDepth 100000
open Go.RowKit

/-- What a function answers that gives new numbers and an error. -/
def NewSE (w : World) (xs : List Int) (er : Int) (e : Ending) (w' : World) : Prop := ∃ A c, e = .returned (.tuple #[.slice A xs.length c, .int .i64 er]) ∧ Own w' w.heap.size A c xs ∧ Below w.heap.size w w'
theorem NewSE.none_ {w w' : World} {er : Int} (hB : Below w.heap.size w w') : NewSE w [] er (.returned (.tuple #[.slice none 0 0, .int .i64 er])) w' := ⟨none, 0, rfl, Own.nil, hB⟩

set_option maxHeartbeats 4000000 in
theorem past_any (h : List Int) (lag : Int) (w : World) (hl : h.length = 80) : Calls Tryd.prog 56 #[.agg (agi h), .int .i64 lag] w (NewSE w (pastL h lag) (errOf (pastB lag))) := by
  by_cases h1 : lag < 20 ∨ 79 < lag
  · rw [show pastL h lag = [] from by unfold pastL; rw [pastB_no h1]; rfl, pastB_no h1]
    have FIN := hid (NewSE.none_ (er := 2) ((Below.refl _ w).alloc (Nat.le_refl _) (.cells (agi h) 28)))
    rcases h1 with h1 | h1
    · have d1 : decide (lag < 20) = true := by simpa using h1
      go_enter Tryd.func56, Tryd.ntmps56
      go_wp2
      go_ret2
      exact FIN.out
    · have d1 : decide (lag < 20) = false := by simp; omega
      have d2 : decide (79 < lag) = true := by simpa using h1
      go_enter Tryd.func56, Tryd.ntmps56
      go_wp2
      go_ret2
      exact FIN.out
  · have hb : pastB lag = true := pastB_yes (by omega) (by omega)
    have hlen := pastL_len (h := h) hb
    obtain ⟨L, rfl⟩ := Int.eq_ofNat_of_zero_le (show 0 ≤ lag by omega)
    have hP := hid (fun j hj => pastL_get (h := h) hb j hj)
    rw [hb]
    have hL1 : 20 ≤ L := by omega
    have hL2 : L ≤ 79 := by omega
    obtain ⟨E, hE⟩ : ∃ E, E = 80 - L := ⟨_, rfl⟩
    have hEi : (80 : Int) - (L : Nat) = (E : Nat) := by omega
    have hE2 : E + L = 80 := by omega
    have A0 := hid (IB.new w 28 h)
    have d1 : decide ((L : Int) < 20) = false := by simp; omega
    have d2 : decide (79 < (L : Int)) = false := by simp; omega
    have HL := hid hl
    have HN := hid hlen
    have HE := hid hE
    clear h1 hb hl hlen hE
    go_enter Tryd.func56, Tryd.ntmps56
    go_wp2_with (at_make; refine wpList_makeI rfl _ _ rfl .i64 .i64 40 rfl rfl w.heap.size (by omega) (by simp) ?_; intro w1 hO hG; have O1 := hid hO; have A1 := hid (Blk.grown A0.out hG (by simp)); have B1 := hid (((Below.refl w.heap.size w).alloc (Nat.le_refl _) (.cells (agi h) 28)).grown hG (by simp) (by simp)); clear hO hG)
    simp only [World.size_alloc] at O1
    go_loopw [17] (fun iv wr => ∃ (k : Nat) (ys : List Int), k ≤ 40 ∧ iv = .int .i64 k ∧ Hid (ys.length = 40 ∧ ∀ j, j < k → ys.getD j 0 = pastE h L j) ∧ Hid (Own wr w.heap.size (some ⟨w.heap.size + 1, 0, none⟩) 40 ys) ∧ Hid (IB wr w.heap.size 28 h) ∧ Hid (Below w.heap.size w wr)) (fun iv _ => 40 - (intOf iv).toNat)
    case atStart => exact ⟨0, _, by omega, rfl, hid ⟨by simp, fun j h => by omega⟩, O1, A1, B1⟩
    case round =>
      clear O1 A1 B1
      obtain ⟨k, ys, hk, rfl, HY, HO, HA, HB⟩ := hrel
      by_cases hlt : k < 40
      · have co := HO.out.cell k (by rw [HY.out.1]; exact hlt)
        have fo := HO.out.frozen k
        have NO := hid (fun v => HO.out.set_ k (by rw [HY.out.1]; exact hlt) v)
        have NA := hid (fun v => Blk.far HA.out (p := ⟨w.heap.size + 1, k, none⟩) (by show w.heap.size ≠ w.heap.size + 1; omega) v)
        have NB := hid (fun v => HB.out.setCell (p := ⟨w.heap.size + 1, k, none⟩) (by show w.heap.size ≤ w.heap.size + 1; omega) v)
        have NEXT := hid (fun (v : Int) (hv : v = pastE h L k) => show Hid ((ys.set k v).length = 40 ∧ ∀ j, j < k + 1 → (ys.set k v).getD j 0 = pastE h L j) from by
          obtain ⟨q1, q3⟩ := HY.out
          refine ⟨by simpa using q1, fun j hj => ?_⟩
          by_cases he : k = j
          · subst he
            rw [get_set_same _ _ _ (by omega), hv]
          · rw [get_set_other _ _ he]
            exact q3 j (by omega))
        by_cases hlow : k < L
        · have ci := HA.out.cell (E + k) (by rw [HL.out]; omega)
          have hEk : E + k < 80 := by omega
          have HV := hid (show h.getD (E + k) 0 = pastE h L k by rw [pastE_low hlow, ← HE.out])
          generalize h.getD (E + k) 0 = x at *
          go_wp2
          go_roundw
          case rel => exact ⟨k + 1, _, by omega, by go_num, NEXT.out _ HV.out, NO.out _, hid (NA.out _), hid (NB.out _)⟩
          case measure => simp [intOf] <;> omega
        · obtain ⟨d, hd⟩ : ∃ d, k = L + d := ⟨k - L, by omega⟩
          have hsub : (k : Int) - (L : Nat) = (d : Nat) := by omega
          have cd := HO.out.cell d (by rw [HY.out.1]; omega)
          have hd40 : d < 40 := by omega
          have HV := hid (show ys.getD d 0 = pastE h L k by rw [HY.out.2 d (by omega), pastE_high (h := h) (lag := L) (i := k) (by omega), show k - L = d from by omega])
          have HD := hid hd
          clear hd
          generalize ys.getD d 0 = x at *
          go_wp2
          go_roundw
          case rel => exact ⟨k + 1, _, by omega, by go_num, NEXT.out _ HV.out, NO.out _, hid (NA.out _), hid (NB.out _)⟩
          case measure => simp [intOf] <;> omega
      · obtain rfl : k = 40 := by omega
        have HF := hid (show ys = pastL h (L : Nat) from list_ext (by rw [HY.out.1, HN.out]) (fun j hj => by rw [HY.out.2 j (by rw [HY.out.1] at hj; exact hj), hP.out j (by rw [HY.out.1] at hj; exact hj)]; rfl))
        go_wp2
        go_ret2
        exact ⟨_, _, by rw [HN.out]; rfl, by rw [← HF.out]; exact HO.out, HB.out⟩
end Go.Proofs.YthoiikkjjaldnaaDoor
