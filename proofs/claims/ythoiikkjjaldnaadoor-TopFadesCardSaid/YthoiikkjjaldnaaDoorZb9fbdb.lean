/- Texts that the law rests on, laid together: BetterW. -/
import Derived.Test.YthoiikkjjaldnaaDoorZaa54cf
import Derived.Test.YthoiikkjjaldnaaDoorZadc01a
import Derived.Test.YthoiikkjjaldnaaDoorZ104825
import Derived.Test.YthoiikkjjaldnaaDoorZ7ba9e8
import Derived.Test.YthoiikkjjaldnaaDoorZe90ea5
import Derived.Test.YthoiikkjjaldnaaDoorZ8fe900
import Derived.BigQuiet
import Derived.Deep.QuietTactic
/- The walks of the program's Better and the reference's, and of the law BasicBetters. -/
namespace Go.Proofs.YthoiikkjjaldnaaDoor
set_option linter.unusedVariables false
set_option linter.unusedSimpArgs false
set_option maxRecDepth 100000
open Go.RowKit

def dgI (n : Nat) (k : Nat) : Int := (dg n k : Nat)
theorem cubeI_any (c f : Nat) (hc : c < 18446744073709551616) (hf : f < 18446744073709551616) (W : World) : Calls Tryd.prog 94 #[.int .u64 (c : Nat), .int .u64 (f : Nat)] W (fun e w' => e = .returned (.agg #[.int .u64 (dgI (c * c * f) 0), .int .u64 (dgI (c * c * f) 1), .int .u64 (dgI (c * c * f) 2)]) ∧ Below W.heap.size W w') :=
  (cube_any c f hc hf W).mono fun e w' h => ⟨by rw [h.1]; rfl, h.2⟩
theorem below_drN3 (w : World) (a b c : Nat) : Below w.heap.size w (((w.drewN a).drewN b).drewN c) := ⟨rfl, rfl, rfl, Nat.le_refl _, fun _ _ => rfl⟩
theorem max_nn {c : Int} (h : 0 ≤ c) : max c 0 = c := by omega
theorem max_neg {c : Int} (h : c < 0) : max c 0 = 0 := by omega
theorem better_nat {c d : Nat} {e f : Int} {en fn : Nat} (he : e = en) (hf : f = fn) (h1 : 0 < e) (h2 : 0 < f) {c' d' : Int} (hc : max c' 0 = c) (hd : max d' 0 = d) : betterB c' e d' f = decide (d * d * en < c * c * fn) := by
  rw [better_cmp h1 h2, hc, hd, he, hf]
  have e1 : ((d : Int) * d * en) = ((d * d * en : Nat) : Int) := by simp
  have e2 : ((c : Int) * c * fn) = ((c * c * fn : Nat) : Int) := by simp
  rw [e1, e2]
  by_cases h : d * d * en < c * c * fn
  · rw [decide_eq_true h, decide_eq_true (by omega)]
  · rw [decide_eq_false h, decide_eq_false (by omega)]


set_option maxHeartbeats 4000000 in
theorem better_any (c e d f : Int) (w : World) (c1 : -9223372036854775808 ≤ c) (c2 : c ≤ 9223372036854775807) (e1 : -9223372036854775808 ≤ e) (e2 : e ≤ 9223372036854775807) (d1 : -9223372036854775808 ≤ d) (d2 : d ≤ 9223372036854775807) (f1 : -9223372036854775808 ≤ f) (f2 : f ≤ 9223372036854775807) :
    Calls Tryd.prog 84 #[.int .i64 c, .int .i64 e, .int .i64 d, .int .i64 f] w fun en w' => en = .returned (.bool (betterB c e d f)) ∧ Below w.heap.size w w' := by
  by_cases he : e ≤ 0
  · have FIN := hid (better_no (c := c) (d := d) (f := f) he)
    have q : ¬ 0 < e := by omega
    go_enter Tryd.func84, Tryd.ntmps84
    go_wp2
    go_ret
    exact ⟨by rw [FIN.out]; simp, Below.refl _ _⟩
  by_cases hf : f ≤ 0
  · have FIN := hid (better_yes (c := c) (d := d) (f := f) (e := e) (by omega) hf)
    have q : 0 < e := by omega
    go_enter Tryd.func84, Tryd.ntmps84
    go_wp2
    go_ret
    exact ⟨by rw [FIN.out]; simp, Below.refl _ _⟩
  obtain ⟨en, rfl⟩ := Int.eq_ofNat_of_zero_le (show 0 ≤ e by omega)
  obtain ⟨fn, rfl⟩ := Int.eq_ofNat_of_zero_le (show 0 ≤ f by omega)
  have he : 0 < ((en : Nat) : Int) := by omega
  have hf : 0 < ((fn : Nat) : Int) := by omega
  by_cases hc : 0 ≤ c
  · obtain ⟨cn, rfl⟩ := Int.eq_ofNat_of_zero_le hc
    have HMC : max ((cn : Nat) : Int) 0 = (cn : Nat) := max_nn hc
    by_cases hd : 0 ≤ d
    · obtain ⟨dn, rfl⟩ := Int.eq_ofNat_of_zero_le hd
      have HMD : max ((dn : Nat) : Int) 0 = (dn : Nat) := max_nn hd
      have K1 := cubeI_any cn fn (by omega) (by omega)
      have K2 := cubeI_any dn en (by omega) (by omega)
      have HB := hid (better_nat (c := cn) (d := dn) (c' := ((cn : Nat))) (d' := ((dn : Nat))) (e := (en : Nat)) (f := (fn : Nat)) rfl rfl he hf HMC HMD)
      obtain ⟨D0, D1, D2, D3⟩ := dg_cmp (cn * cn * fn) (dn * dn * en)
      generalize cn * cn * fn = X at *
      generalize dn * dn * en = Y at *
      have A0 := hid D0
      have A1 := hid D1
      have A2 := hid D2
      have A3 := hid D3
      have hx0 := hid (show dgI X 0 = (dg X 0 : Nat) from rfl)
      have hx1 := hid (show dgI X 1 = (dg X 1 : Nat) from rfl)
      have hx2 := hid (show dgI X 2 = (dg X 2 : Nat) from rfl)
      have hy0 := hid (show dgI Y 0 = (dg Y 0 : Nat) from rfl)
      have hy1 := hid (show dgI Y 1 = (dg Y 1 : Nat) from rfl)
      have hy2 := hid (show dgI Y 2 = (dg Y 2 : Nat) from rfl)
      clear D0 D1 D2 D3
      generalize dgI X 0 = x0 at *
      generalize dgI X 1 = x1 at *
      generalize dgI X 2 = x2 at *
      generalize dgI Y 0 = y0 at *
      generalize dgI Y 1 = y1 at *
      generalize dgI Y 2 = y2 at *
      have K1' := hid K1
      have K2' := hid K2
      clear K1 K2
      go_enter Tryd.func84, Tryd.ntmps84
      go_wp2_with fail
      refine (K1'.out _).mono ?_
      rintro en1 w1 ⟨rfl, hB⟩
      have B1 := hid hB
      clear hB
      go_wp2_with fail
      refine (K2'.out _).mono ?_
      rintro en1 w2 ⟨rfl, hB⟩
      have B2 := hid (B1.out.trans (hB.mono B1.out.size))
      clear hB
      go_wp2
      have BV := hid ((B2.out.alloc B2.out.size (.cells #[.int .u64 x0, .int .u64 x1, .int .u64 x2] 157)).alloc (by have := B2.out.size; simp; omega) (.cells #[.int .u64 y0, .int .u64 y1, .int .u64 y2] 157))
      obtain ⟨V, hV⟩ : ∃ V, V = (w2.alloc (.cells #[.int .u64 x0, .int .u64 x1, .int .u64 x2] 157)).alloc (.cells #[.int .u64 y0, .int .u64 y1, .int .u64 y2] 157) := ⟨_, rfl⟩
      have P1 := hid (show Blk V w2.heap.size 157 #[.int .u64 x0, .int .u64 x1, .int .u64 x2] by rw [hV]; exact Blk.alloc (Blk.new w2 _ _) _)
      have P2 := hid (show Blk V (w2.heap.size + 1) 157 #[.int .u64 y0, .int .u64 y1, .int .u64 y2] by rw [hV]; have h := Blk.new (w2.alloc (.cells #[.int .u64 x0, .int .u64 x1, .int .u64 x2] 157)) 157 #[.int .u64 y0, .int .u64 y1, .int .u64 y2]; simp only [World.size_alloc] at h; exact h)
      rw [← hV] at BV ⊢
      clear hV B1 B2
      go_loopw [32] (fun iv wr => ∃ (k m : Nat), k ≤ 3 ∧ iv = .int .i64 k ∧ wr = V.drewN m ∧ Hid (∀ j, j < k → dg X j = dg Y j)) (fun iv _ => 3 - (intOf iv).toNat)
      case atStart => exact ⟨0, 0, by omega, rfl, rfl, hid (fun j h => by omega)⟩
      case round =>
        obtain ⟨k, m, hk, rfl, rfl, HE⟩ := hrel
        have BW := hid (BV.out.trans ((below_drN V m).mono BV.out.size))
        by_cases h0 : k = 0
        · subst h0
          have cx : V.cell? ⟨w2.heap.size, 0, none⟩ = some (.int .u64 x0) := Blk.cell P1.out 0
          have cy : V.cell? ⟨w2.heap.size + 1, 0, none⟩ = some (.int .u64 y0) := Blk.cell P2.out 0
          by_cases heq : x0 = y0
          · have e1 : (x0 == y0) = true := by simpa using heq
            have e2 : (x0 != y0) = false := by simpa using heq
            have HE2 := hid (show ∀ j, j < 0 + 1 → dg X j = dg Y j from fun j hj => by
              by_cases e : j = 0
              · subst e; have h1 := hx0.out; have h2 := hy0.out; omega
              · exact HE.out j (by omega))
            clear heq
            go_wp2
            go_quiet (fail)
            go_wp2
            go_roundw
            case rel => exact ⟨0 + 1, _, by omega, rfl, rfl, HE2⟩
            case measure => simp [intOf]
          · have e1 : (x0 == y0) = false := by simpa using heq
            have e2 : (x0 != y0) = true := by simpa using heq
            have HF := hid (show betterB ((cn : Nat)) (en : Nat) ((dn : Nat)) (fn : Nat) = decide (y0 < x0) by
              rw [HB.out]
              have h1 := hx0.out
              have h2 := hy0.out
              have h3 : dg Y 0 < dg X 0 ↔ Y < X := A0.out (fun hh => heq (by omega))
              by_cases h : Y < X
              · have := h3.2 h; rw [decide_eq_true h, decide_eq_true (by omega)]
              · have : ¬ dg Y 0 < dg X 0 := fun hh => h (h3.1 hh)
                rw [decide_eq_false h, decide_eq_false (by omega)])
            clear heq
            go_wp2
            go_quiet (fail)
            go_wp2
            go_quiet (fail)
            go_wp2
            go_ret
            exact ⟨by rw [HF.out]; rfl, BV.out.trans ((below_drN3 V _ _ _).mono BV.out.size)⟩
        by_cases h1 : k = 1
        · subst h1
          have cx : V.cell? ⟨w2.heap.size, 1, none⟩ = some (.int .u64 x1) := Blk.cell P1.out 1
          have cy : V.cell? ⟨w2.heap.size + 1, 1, none⟩ = some (.int .u64 y1) := Blk.cell P2.out 1
          by_cases heq : x1 = y1
          · have e1 : (x1 == y1) = true := by simpa using heq
            have e2 : (x1 != y1) = false := by simpa using heq
            have HE2 := hid (show ∀ j, j < 1 + 1 → dg X j = dg Y j from fun j hj => by
              by_cases e : j = 1
              · subst e; have h1 := hx1.out; have h2 := hy1.out; omega
              · exact HE.out j (by omega))
            clear heq
            go_wp2
            go_quiet (fail)
            go_wp2
            go_roundw
            case rel => exact ⟨1 + 1, _, by omega, rfl, rfl, HE2⟩
            case measure => simp [intOf]
          · have e1 : (x1 == y1) = false := by simpa using heq
            have e2 : (x1 != y1) = true := by simpa using heq
            have HF := hid (show betterB ((cn : Nat)) (en : Nat) ((dn : Nat)) (fn : Nat) = decide (y1 < x1) by
              rw [HB.out]
              have h1 := hx1.out
              have h2 := hy1.out
              have h3 : dg Y 1 < dg X 1 ↔ Y < X := A1.out (HE.out 0 (by omega)) (fun hh => heq (by omega))
              by_cases h : Y < X
              · have := h3.2 h; rw [decide_eq_true h, decide_eq_true (by omega)]
              · have : ¬ dg Y 1 < dg X 1 := fun hh => h (h3.1 hh)
                rw [decide_eq_false h, decide_eq_false (by omega)])
            clear heq
            go_wp2
            go_quiet (fail)
            go_wp2
            go_quiet (fail)
            go_wp2
            go_ret
            exact ⟨by rw [HF.out]; rfl, BV.out.trans ((below_drN3 V _ _ _).mono BV.out.size)⟩
        by_cases h2 : k = 2
        · subst h2
          have cx : V.cell? ⟨w2.heap.size, 2, none⟩ = some (.int .u64 x2) := Blk.cell P1.out 2
          have cy : V.cell? ⟨w2.heap.size + 1, 2, none⟩ = some (.int .u64 y2) := Blk.cell P2.out 2
          by_cases heq : x2 = y2
          · have e1 : (x2 == y2) = true := by simpa using heq
            have e2 : (x2 != y2) = false := by simpa using heq
            have HE2 := hid (show ∀ j, j < 2 + 1 → dg X j = dg Y j from fun j hj => by
              by_cases e : j = 2
              · subst e; have h1 := hx2.out; have h2 := hy2.out; omega
              · exact HE.out j (by omega))
            clear heq
            go_wp2
            go_quiet (fail)
            go_wp2
            go_roundw
            case rel => exact ⟨2 + 1, _, by omega, rfl, rfl, HE2⟩
            case measure => simp [intOf]
          · have e1 : (x2 == y2) = false := by simpa using heq
            have e2 : (x2 != y2) = true := by simpa using heq
            have HF := hid (show betterB ((cn : Nat)) (en : Nat) ((dn : Nat)) (fn : Nat) = decide (y2 < x2) by
              rw [HB.out]
              have h1 := hx2.out
              have h2 := hy2.out
              have h3 : dg Y 2 < dg X 2 ↔ Y < X := A2.out (HE.out 0 (by omega)) (HE.out 1 (by omega)) (fun hh => heq (by omega))
              by_cases h : Y < X
              · have := h3.2 h; rw [decide_eq_true h, decide_eq_true (by omega)]
              · have : ¬ dg Y 2 < dg X 2 := fun hh => h (h3.1 hh)
                rw [decide_eq_false h, decide_eq_false (by omega)])
            clear heq
            go_wp2
            go_quiet (fail)
            go_wp2
            go_quiet (fail)
            go_wp2
            go_ret
            exact ⟨by rw [HF.out]; rfl, BV.out.trans ((below_drN3 V _ _ _).mono BV.out.size)⟩
        obtain rfl : k = 3 := by omega
        have HF := hid (show betterB ((cn : Nat)) (en : Nat) ((dn : Nat)) (fn : Nat) = false by
          rw [HB.out]
          have := A3.out (HE.out 0 (by omega)) (HE.out 1 (by omega)) (HE.out 2 (by omega))
          simp; omega)
        clear h0 h1 h2
        go_wp2
        go_ret
        exact ⟨by rw [HF.out]; rfl, BW.out⟩
    · have hd2 : d < 0 := by omega
      have HMD : max d 0 = ((0 : Nat) : Int) := max_neg hd2
      have K1 := cubeI_any cn fn (by omega) (by omega)
      have K2 := cubeI_any 0 en (by omega) (by omega)
      have HB := hid (better_nat (c := cn) (d := 0) (c' := ((cn : Nat))) (d' := (d)) (e := (en : Nat)) (f := (fn : Nat)) rfl rfl he hf HMC HMD)
      obtain ⟨D0, D1, D2, D3⟩ := dg_cmp (cn * cn * fn) (0 * 0 * en)
      generalize cn * cn * fn = X at *
      generalize 0 * 0 * en = Y at *
      have A0 := hid D0
      have A1 := hid D1
      have A2 := hid D2
      have A3 := hid D3
      have hx0 := hid (show dgI X 0 = (dg X 0 : Nat) from rfl)
      have hx1 := hid (show dgI X 1 = (dg X 1 : Nat) from rfl)
      have hx2 := hid (show dgI X 2 = (dg X 2 : Nat) from rfl)
      have hy0 := hid (show dgI Y 0 = (dg Y 0 : Nat) from rfl)
      have hy1 := hid (show dgI Y 1 = (dg Y 1 : Nat) from rfl)
      have hy2 := hid (show dgI Y 2 = (dg Y 2 : Nat) from rfl)
      clear D0 D1 D2 D3
      generalize dgI X 0 = x0 at *
      generalize dgI X 1 = x1 at *
      generalize dgI X 2 = x2 at *
      generalize dgI Y 0 = y0 at *
      generalize dgI Y 1 = y1 at *
      generalize dgI Y 2 = y2 at *
      have K1' := hid K1
      have K2' := hid K2
      clear K1 K2
      go_enter Tryd.func84, Tryd.ntmps84
      go_wp2_with fail
      refine (K1'.out _).mono ?_
      rintro en1 w1 ⟨rfl, hB⟩
      have B1 := hid hB
      clear hB
      go_wp2_with fail
      refine (K2'.out _).mono ?_
      rintro en1 w2 ⟨rfl, hB⟩
      have B2 := hid (B1.out.trans (hB.mono B1.out.size))
      clear hB
      go_wp2
      have BV := hid ((B2.out.alloc B2.out.size (.cells #[.int .u64 x0, .int .u64 x1, .int .u64 x2] 157)).alloc (by have := B2.out.size; simp; omega) (.cells #[.int .u64 y0, .int .u64 y1, .int .u64 y2] 157))
      obtain ⟨V, hV⟩ : ∃ V, V = (w2.alloc (.cells #[.int .u64 x0, .int .u64 x1, .int .u64 x2] 157)).alloc (.cells #[.int .u64 y0, .int .u64 y1, .int .u64 y2] 157) := ⟨_, rfl⟩
      have P1 := hid (show Blk V w2.heap.size 157 #[.int .u64 x0, .int .u64 x1, .int .u64 x2] by rw [hV]; exact Blk.alloc (Blk.new w2 _ _) _)
      have P2 := hid (show Blk V (w2.heap.size + 1) 157 #[.int .u64 y0, .int .u64 y1, .int .u64 y2] by rw [hV]; have h := Blk.new (w2.alloc (.cells #[.int .u64 x0, .int .u64 x1, .int .u64 x2] 157)) 157 #[.int .u64 y0, .int .u64 y1, .int .u64 y2]; simp only [World.size_alloc] at h; exact h)
      rw [← hV] at BV ⊢
      clear hV B1 B2
      go_loopw [32] (fun iv wr => ∃ (k m : Nat), k ≤ 3 ∧ iv = .int .i64 k ∧ wr = V.drewN m ∧ Hid (∀ j, j < k → dg X j = dg Y j)) (fun iv _ => 3 - (intOf iv).toNat)
      case atStart => exact ⟨0, 0, by omega, rfl, rfl, hid (fun j h => by omega)⟩
      case round =>
        obtain ⟨k, m, hk, rfl, rfl, HE⟩ := hrel
        have BW := hid (BV.out.trans ((below_drN V m).mono BV.out.size))
        by_cases h0 : k = 0
        · subst h0
          have cx : V.cell? ⟨w2.heap.size, 0, none⟩ = some (.int .u64 x0) := Blk.cell P1.out 0
          have cy : V.cell? ⟨w2.heap.size + 1, 0, none⟩ = some (.int .u64 y0) := Blk.cell P2.out 0
          by_cases heq : x0 = y0
          · have e1 : (x0 == y0) = true := by simpa using heq
            have e2 : (x0 != y0) = false := by simpa using heq
            have HE2 := hid (show ∀ j, j < 0 + 1 → dg X j = dg Y j from fun j hj => by
              by_cases e : j = 0
              · subst e; have h1 := hx0.out; have h2 := hy0.out; omega
              · exact HE.out j (by omega))
            clear heq
            go_wp2
            go_quiet (fail)
            go_wp2
            go_roundw
            case rel => exact ⟨0 + 1, _, by omega, rfl, rfl, HE2⟩
            case measure => simp [intOf]
          · have e1 : (x0 == y0) = false := by simpa using heq
            have e2 : (x0 != y0) = true := by simpa using heq
            have HF := hid (show betterB ((cn : Nat)) (en : Nat) (d) (fn : Nat) = decide (y0 < x0) by
              rw [HB.out]
              have h1 := hx0.out
              have h2 := hy0.out
              have h3 : dg Y 0 < dg X 0 ↔ Y < X := A0.out (fun hh => heq (by omega))
              by_cases h : Y < X
              · have := h3.2 h; rw [decide_eq_true h, decide_eq_true (by omega)]
              · have : ¬ dg Y 0 < dg X 0 := fun hh => h (h3.1 hh)
                rw [decide_eq_false h, decide_eq_false (by omega)])
            clear heq
            go_wp2
            go_quiet (fail)
            go_wp2
            go_quiet (fail)
            go_wp2
            go_ret
            exact ⟨by rw [HF.out]; rfl, BV.out.trans ((below_drN3 V _ _ _).mono BV.out.size)⟩
        by_cases h1 : k = 1
        · subst h1
          have cx : V.cell? ⟨w2.heap.size, 1, none⟩ = some (.int .u64 x1) := Blk.cell P1.out 1
          have cy : V.cell? ⟨w2.heap.size + 1, 1, none⟩ = some (.int .u64 y1) := Blk.cell P2.out 1
          by_cases heq : x1 = y1
          · have e1 : (x1 == y1) = true := by simpa using heq
            have e2 : (x1 != y1) = false := by simpa using heq
            have HE2 := hid (show ∀ j, j < 1 + 1 → dg X j = dg Y j from fun j hj => by
              by_cases e : j = 1
              · subst e; have h1 := hx1.out; have h2 := hy1.out; omega
              · exact HE.out j (by omega))
            clear heq
            go_wp2
            go_quiet (fail)
            go_wp2
            go_roundw
            case rel => exact ⟨1 + 1, _, by omega, rfl, rfl, HE2⟩
            case measure => simp [intOf]
          · have e1 : (x1 == y1) = false := by simpa using heq
            have e2 : (x1 != y1) = true := by simpa using heq
            have HF := hid (show betterB ((cn : Nat)) (en : Nat) (d) (fn : Nat) = decide (y1 < x1) by
              rw [HB.out]
              have h1 := hx1.out
              have h2 := hy1.out
              have h3 : dg Y 1 < dg X 1 ↔ Y < X := A1.out (HE.out 0 (by omega)) (fun hh => heq (by omega))
              by_cases h : Y < X
              · have := h3.2 h; rw [decide_eq_true h, decide_eq_true (by omega)]
              · have : ¬ dg Y 1 < dg X 1 := fun hh => h (h3.1 hh)
                rw [decide_eq_false h, decide_eq_false (by omega)])
            clear heq
            go_wp2
            go_quiet (fail)
            go_wp2
            go_quiet (fail)
            go_wp2
            go_ret
            exact ⟨by rw [HF.out]; rfl, BV.out.trans ((below_drN3 V _ _ _).mono BV.out.size)⟩
        by_cases h2 : k = 2
        · subst h2
          have cx : V.cell? ⟨w2.heap.size, 2, none⟩ = some (.int .u64 x2) := Blk.cell P1.out 2
          have cy : V.cell? ⟨w2.heap.size + 1, 2, none⟩ = some (.int .u64 y2) := Blk.cell P2.out 2
          by_cases heq : x2 = y2
          · have e1 : (x2 == y2) = true := by simpa using heq
            have e2 : (x2 != y2) = false := by simpa using heq
            have HE2 := hid (show ∀ j, j < 2 + 1 → dg X j = dg Y j from fun j hj => by
              by_cases e : j = 2
              · subst e; have h1 := hx2.out; have h2 := hy2.out; omega
              · exact HE.out j (by omega))
            clear heq
            go_wp2
            go_quiet (fail)
            go_wp2
            go_roundw
            case rel => exact ⟨2 + 1, _, by omega, rfl, rfl, HE2⟩
            case measure => simp [intOf]
          · have e1 : (x2 == y2) = false := by simpa using heq
            have e2 : (x2 != y2) = true := by simpa using heq
            have HF := hid (show betterB ((cn : Nat)) (en : Nat) (d) (fn : Nat) = decide (y2 < x2) by
              rw [HB.out]
              have h1 := hx2.out
              have h2 := hy2.out
              have h3 : dg Y 2 < dg X 2 ↔ Y < X := A2.out (HE.out 0 (by omega)) (HE.out 1 (by omega)) (fun hh => heq (by omega))
              by_cases h : Y < X
              · have := h3.2 h; rw [decide_eq_true h, decide_eq_true (by omega)]
              · have : ¬ dg Y 2 < dg X 2 := fun hh => h (h3.1 hh)
                rw [decide_eq_false h, decide_eq_false (by omega)])
            clear heq
            go_wp2
            go_quiet (fail)
            go_wp2
            go_quiet (fail)
            go_wp2
            go_ret
            exact ⟨by rw [HF.out]; rfl, BV.out.trans ((below_drN3 V _ _ _).mono BV.out.size)⟩
        obtain rfl : k = 3 := by omega
        have HF := hid (show betterB ((cn : Nat)) (en : Nat) (d) (fn : Nat) = false by
          rw [HB.out]
          have := A3.out (HE.out 0 (by omega)) (HE.out 1 (by omega)) (HE.out 2 (by omega))
          simp; omega)
        clear h0 h1 h2
        go_wp2
        go_ret
        exact ⟨by rw [HF.out]; rfl, BW.out⟩
  · have hc2 : c < 0 := by omega
    have HMC : max c 0 = ((0 : Nat) : Int) := max_neg hc2
    by_cases hd : 0 ≤ d
    · obtain ⟨dn, rfl⟩ := Int.eq_ofNat_of_zero_le hd
      have HMD : max ((dn : Nat) : Int) 0 = (dn : Nat) := max_nn hd
      have K1 := cubeI_any 0 fn (by omega) (by omega)
      have K2 := cubeI_any dn en (by omega) (by omega)
      have HB := hid (better_nat (c := 0) (d := dn) (c' := (c)) (d' := ((dn : Nat))) (e := (en : Nat)) (f := (fn : Nat)) rfl rfl he hf HMC HMD)
      obtain ⟨D0, D1, D2, D3⟩ := dg_cmp (0 * 0 * fn) (dn * dn * en)
      generalize 0 * 0 * fn = X at *
      generalize dn * dn * en = Y at *
      have A0 := hid D0
      have A1 := hid D1
      have A2 := hid D2
      have A3 := hid D3
      have hx0 := hid (show dgI X 0 = (dg X 0 : Nat) from rfl)
      have hx1 := hid (show dgI X 1 = (dg X 1 : Nat) from rfl)
      have hx2 := hid (show dgI X 2 = (dg X 2 : Nat) from rfl)
      have hy0 := hid (show dgI Y 0 = (dg Y 0 : Nat) from rfl)
      have hy1 := hid (show dgI Y 1 = (dg Y 1 : Nat) from rfl)
      have hy2 := hid (show dgI Y 2 = (dg Y 2 : Nat) from rfl)
      clear D0 D1 D2 D3
      generalize dgI X 0 = x0 at *
      generalize dgI X 1 = x1 at *
      generalize dgI X 2 = x2 at *
      generalize dgI Y 0 = y0 at *
      generalize dgI Y 1 = y1 at *
      generalize dgI Y 2 = y2 at *
      have K1' := hid K1
      have K2' := hid K2
      clear K1 K2
      go_enter Tryd.func84, Tryd.ntmps84
      go_wp2_with fail
      refine (K1'.out _).mono ?_
      rintro en1 w1 ⟨rfl, hB⟩
      have B1 := hid hB
      clear hB
      go_wp2_with fail
      refine (K2'.out _).mono ?_
      rintro en1 w2 ⟨rfl, hB⟩
      have B2 := hid (B1.out.trans (hB.mono B1.out.size))
      clear hB
      go_wp2
      have BV := hid ((B2.out.alloc B2.out.size (.cells #[.int .u64 x0, .int .u64 x1, .int .u64 x2] 157)).alloc (by have := B2.out.size; simp; omega) (.cells #[.int .u64 y0, .int .u64 y1, .int .u64 y2] 157))
      obtain ⟨V, hV⟩ : ∃ V, V = (w2.alloc (.cells #[.int .u64 x0, .int .u64 x1, .int .u64 x2] 157)).alloc (.cells #[.int .u64 y0, .int .u64 y1, .int .u64 y2] 157) := ⟨_, rfl⟩
      have P1 := hid (show Blk V w2.heap.size 157 #[.int .u64 x0, .int .u64 x1, .int .u64 x2] by rw [hV]; exact Blk.alloc (Blk.new w2 _ _) _)
      have P2 := hid (show Blk V (w2.heap.size + 1) 157 #[.int .u64 y0, .int .u64 y1, .int .u64 y2] by rw [hV]; have h := Blk.new (w2.alloc (.cells #[.int .u64 x0, .int .u64 x1, .int .u64 x2] 157)) 157 #[.int .u64 y0, .int .u64 y1, .int .u64 y2]; simp only [World.size_alloc] at h; exact h)
      rw [← hV] at BV ⊢
      clear hV B1 B2
      go_loopw [32] (fun iv wr => ∃ (k m : Nat), k ≤ 3 ∧ iv = .int .i64 k ∧ wr = V.drewN m ∧ Hid (∀ j, j < k → dg X j = dg Y j)) (fun iv _ => 3 - (intOf iv).toNat)
      case atStart => exact ⟨0, 0, by omega, rfl, rfl, hid (fun j h => by omega)⟩
      case round =>
        obtain ⟨k, m, hk, rfl, rfl, HE⟩ := hrel
        have BW := hid (BV.out.trans ((below_drN V m).mono BV.out.size))
        by_cases h0 : k = 0
        · subst h0
          have cx : V.cell? ⟨w2.heap.size, 0, none⟩ = some (.int .u64 x0) := Blk.cell P1.out 0
          have cy : V.cell? ⟨w2.heap.size + 1, 0, none⟩ = some (.int .u64 y0) := Blk.cell P2.out 0
          by_cases heq : x0 = y0
          · have e1 : (x0 == y0) = true := by simpa using heq
            have e2 : (x0 != y0) = false := by simpa using heq
            have HE2 := hid (show ∀ j, j < 0 + 1 → dg X j = dg Y j from fun j hj => by
              by_cases e : j = 0
              · subst e; have h1 := hx0.out; have h2 := hy0.out; omega
              · exact HE.out j (by omega))
            clear heq
            go_wp2
            go_quiet (fail)
            go_wp2
            go_roundw
            case rel => exact ⟨0 + 1, _, by omega, rfl, rfl, HE2⟩
            case measure => simp [intOf]
          · have e1 : (x0 == y0) = false := by simpa using heq
            have e2 : (x0 != y0) = true := by simpa using heq
            have HF := hid (show betterB (c) (en : Nat) ((dn : Nat)) (fn : Nat) = decide (y0 < x0) by
              rw [HB.out]
              have h1 := hx0.out
              have h2 := hy0.out
              have h3 : dg Y 0 < dg X 0 ↔ Y < X := A0.out (fun hh => heq (by omega))
              by_cases h : Y < X
              · have := h3.2 h; rw [decide_eq_true h, decide_eq_true (by omega)]
              · have : ¬ dg Y 0 < dg X 0 := fun hh => h (h3.1 hh)
                rw [decide_eq_false h, decide_eq_false (by omega)])
            clear heq
            go_wp2
            go_quiet (fail)
            go_wp2
            go_quiet (fail)
            go_wp2
            go_ret
            exact ⟨by rw [HF.out]; rfl, BV.out.trans ((below_drN3 V _ _ _).mono BV.out.size)⟩
        by_cases h1 : k = 1
        · subst h1
          have cx : V.cell? ⟨w2.heap.size, 1, none⟩ = some (.int .u64 x1) := Blk.cell P1.out 1
          have cy : V.cell? ⟨w2.heap.size + 1, 1, none⟩ = some (.int .u64 y1) := Blk.cell P2.out 1
          by_cases heq : x1 = y1
          · have e1 : (x1 == y1) = true := by simpa using heq
            have e2 : (x1 != y1) = false := by simpa using heq
            have HE2 := hid (show ∀ j, j < 1 + 1 → dg X j = dg Y j from fun j hj => by
              by_cases e : j = 1
              · subst e; have h1 := hx1.out; have h2 := hy1.out; omega
              · exact HE.out j (by omega))
            clear heq
            go_wp2
            go_quiet (fail)
            go_wp2
            go_roundw
            case rel => exact ⟨1 + 1, _, by omega, rfl, rfl, HE2⟩
            case measure => simp [intOf]
          · have e1 : (x1 == y1) = false := by simpa using heq
            have e2 : (x1 != y1) = true := by simpa using heq
            have HF := hid (show betterB (c) (en : Nat) ((dn : Nat)) (fn : Nat) = decide (y1 < x1) by
              rw [HB.out]
              have h1 := hx1.out
              have h2 := hy1.out
              have h3 : dg Y 1 < dg X 1 ↔ Y < X := A1.out (HE.out 0 (by omega)) (fun hh => heq (by omega))
              by_cases h : Y < X
              · have := h3.2 h; rw [decide_eq_true h, decide_eq_true (by omega)]
              · have : ¬ dg Y 1 < dg X 1 := fun hh => h (h3.1 hh)
                rw [decide_eq_false h, decide_eq_false (by omega)])
            clear heq
            go_wp2
            go_quiet (fail)
            go_wp2
            go_quiet (fail)
            go_wp2
            go_ret
            exact ⟨by rw [HF.out]; rfl, BV.out.trans ((below_drN3 V _ _ _).mono BV.out.size)⟩
        by_cases h2 : k = 2
        · subst h2
          have cx : V.cell? ⟨w2.heap.size, 2, none⟩ = some (.int .u64 x2) := Blk.cell P1.out 2
          have cy : V.cell? ⟨w2.heap.size + 1, 2, none⟩ = some (.int .u64 y2) := Blk.cell P2.out 2
          by_cases heq : x2 = y2
          · have e1 : (x2 == y2) = true := by simpa using heq
            have e2 : (x2 != y2) = false := by simpa using heq
            have HE2 := hid (show ∀ j, j < 2 + 1 → dg X j = dg Y j from fun j hj => by
              by_cases e : j = 2
              · subst e; have h1 := hx2.out; have h2 := hy2.out; omega
              · exact HE.out j (by omega))
            clear heq
            go_wp2
            go_quiet (fail)
            go_wp2
            go_roundw
            case rel => exact ⟨2 + 1, _, by omega, rfl, rfl, HE2⟩
            case measure => simp [intOf]
          · have e1 : (x2 == y2) = false := by simpa using heq
            have e2 : (x2 != y2) = true := by simpa using heq
            have HF := hid (show betterB (c) (en : Nat) ((dn : Nat)) (fn : Nat) = decide (y2 < x2) by
              rw [HB.out]
              have h1 := hx2.out
              have h2 := hy2.out
              have h3 : dg Y 2 < dg X 2 ↔ Y < X := A2.out (HE.out 0 (by omega)) (HE.out 1 (by omega)) (fun hh => heq (by omega))
              by_cases h : Y < X
              · have := h3.2 h; rw [decide_eq_true h, decide_eq_true (by omega)]
              · have : ¬ dg Y 2 < dg X 2 := fun hh => h (h3.1 hh)
                rw [decide_eq_false h, decide_eq_false (by omega)])
            clear heq
            go_wp2
            go_quiet (fail)
            go_wp2
            go_quiet (fail)
            go_wp2
            go_ret
            exact ⟨by rw [HF.out]; rfl, BV.out.trans ((below_drN3 V _ _ _).mono BV.out.size)⟩
        obtain rfl : k = 3 := by omega
        have HF := hid (show betterB (c) (en : Nat) ((dn : Nat)) (fn : Nat) = false by
          rw [HB.out]
          have := A3.out (HE.out 0 (by omega)) (HE.out 1 (by omega)) (HE.out 2 (by omega))
          simp; omega)
        clear h0 h1 h2
        go_wp2
        go_ret
        exact ⟨by rw [HF.out]; rfl, BW.out⟩
    · have hd2 : d < 0 := by omega
      have HMD : max d 0 = ((0 : Nat) : Int) := max_neg hd2
      have K1 := cubeI_any 0 fn (by omega) (by omega)
      have K2 := cubeI_any 0 en (by omega) (by omega)
      have HB := hid (better_nat (c := 0) (d := 0) (c' := (c)) (d' := (d)) (e := (en : Nat)) (f := (fn : Nat)) rfl rfl he hf HMC HMD)
      obtain ⟨D0, D1, D2, D3⟩ := dg_cmp (0 * 0 * fn) (0 * 0 * en)
      generalize 0 * 0 * fn = X at *
      generalize 0 * 0 * en = Y at *
      have A0 := hid D0
      have A1 := hid D1
      have A2 := hid D2
      have A3 := hid D3
      have hx0 := hid (show dgI X 0 = (dg X 0 : Nat) from rfl)
      have hx1 := hid (show dgI X 1 = (dg X 1 : Nat) from rfl)
      have hx2 := hid (show dgI X 2 = (dg X 2 : Nat) from rfl)
      have hy0 := hid (show dgI Y 0 = (dg Y 0 : Nat) from rfl)
      have hy1 := hid (show dgI Y 1 = (dg Y 1 : Nat) from rfl)
      have hy2 := hid (show dgI Y 2 = (dg Y 2 : Nat) from rfl)
      clear D0 D1 D2 D3
      generalize dgI X 0 = x0 at *
      generalize dgI X 1 = x1 at *
      generalize dgI X 2 = x2 at *
      generalize dgI Y 0 = y0 at *
      generalize dgI Y 1 = y1 at *
      generalize dgI Y 2 = y2 at *
      have K1' := hid K1
      have K2' := hid K2
      clear K1 K2
      go_enter Tryd.func84, Tryd.ntmps84
      go_wp2_with fail
      refine (K1'.out _).mono ?_
      rintro en1 w1 ⟨rfl, hB⟩
      have B1 := hid hB
      clear hB
      go_wp2_with fail
      refine (K2'.out _).mono ?_
      rintro en1 w2 ⟨rfl, hB⟩
      have B2 := hid (B1.out.trans (hB.mono B1.out.size))
      clear hB
      go_wp2
      have BV := hid ((B2.out.alloc B2.out.size (.cells #[.int .u64 x0, .int .u64 x1, .int .u64 x2] 157)).alloc (by have := B2.out.size; simp; omega) (.cells #[.int .u64 y0, .int .u64 y1, .int .u64 y2] 157))
      obtain ⟨V, hV⟩ : ∃ V, V = (w2.alloc (.cells #[.int .u64 x0, .int .u64 x1, .int .u64 x2] 157)).alloc (.cells #[.int .u64 y0, .int .u64 y1, .int .u64 y2] 157) := ⟨_, rfl⟩
      have P1 := hid (show Blk V w2.heap.size 157 #[.int .u64 x0, .int .u64 x1, .int .u64 x2] by rw [hV]; exact Blk.alloc (Blk.new w2 _ _) _)
      have P2 := hid (show Blk V (w2.heap.size + 1) 157 #[.int .u64 y0, .int .u64 y1, .int .u64 y2] by rw [hV]; have h := Blk.new (w2.alloc (.cells #[.int .u64 x0, .int .u64 x1, .int .u64 x2] 157)) 157 #[.int .u64 y0, .int .u64 y1, .int .u64 y2]; simp only [World.size_alloc] at h; exact h)
      rw [← hV] at BV ⊢
      clear hV B1 B2
      go_loopw [32] (fun iv wr => ∃ (k m : Nat), k ≤ 3 ∧ iv = .int .i64 k ∧ wr = V.drewN m ∧ Hid (∀ j, j < k → dg X j = dg Y j)) (fun iv _ => 3 - (intOf iv).toNat)
      case atStart => exact ⟨0, 0, by omega, rfl, rfl, hid (fun j h => by omega)⟩
      case round =>
        obtain ⟨k, m, hk, rfl, rfl, HE⟩ := hrel
        have BW := hid (BV.out.trans ((below_drN V m).mono BV.out.size))
        by_cases h0 : k = 0
        · subst h0
          have cx : V.cell? ⟨w2.heap.size, 0, none⟩ = some (.int .u64 x0) := Blk.cell P1.out 0
          have cy : V.cell? ⟨w2.heap.size + 1, 0, none⟩ = some (.int .u64 y0) := Blk.cell P2.out 0
          by_cases heq : x0 = y0
          · have e1 : (x0 == y0) = true := by simpa using heq
            have e2 : (x0 != y0) = false := by simpa using heq
            have HE2 := hid (show ∀ j, j < 0 + 1 → dg X j = dg Y j from fun j hj => by
              by_cases e : j = 0
              · subst e; have h1 := hx0.out; have h2 := hy0.out; omega
              · exact HE.out j (by omega))
            clear heq
            go_wp2
            go_quiet (fail)
            go_wp2
            go_roundw
            case rel => exact ⟨0 + 1, _, by omega, rfl, rfl, HE2⟩
            case measure => simp [intOf]
          · have e1 : (x0 == y0) = false := by simpa using heq
            have e2 : (x0 != y0) = true := by simpa using heq
            have HF := hid (show betterB (c) (en : Nat) (d) (fn : Nat) = decide (y0 < x0) by
              rw [HB.out]
              have h1 := hx0.out
              have h2 := hy0.out
              have h3 : dg Y 0 < dg X 0 ↔ Y < X := A0.out (fun hh => heq (by omega))
              by_cases h : Y < X
              · have := h3.2 h; rw [decide_eq_true h, decide_eq_true (by omega)]
              · have : ¬ dg Y 0 < dg X 0 := fun hh => h (h3.1 hh)
                rw [decide_eq_false h, decide_eq_false (by omega)])
            clear heq
            go_wp2
            go_quiet (fail)
            go_wp2
            go_quiet (fail)
            go_wp2
            go_ret
            exact ⟨by rw [HF.out]; rfl, BV.out.trans ((below_drN3 V _ _ _).mono BV.out.size)⟩
        by_cases h1 : k = 1
        · subst h1
          have cx : V.cell? ⟨w2.heap.size, 1, none⟩ = some (.int .u64 x1) := Blk.cell P1.out 1
          have cy : V.cell? ⟨w2.heap.size + 1, 1, none⟩ = some (.int .u64 y1) := Blk.cell P2.out 1
          by_cases heq : x1 = y1
          · have e1 : (x1 == y1) = true := by simpa using heq
            have e2 : (x1 != y1) = false := by simpa using heq
            have HE2 := hid (show ∀ j, j < 1 + 1 → dg X j = dg Y j from fun j hj => by
              by_cases e : j = 1
              · subst e; have h1 := hx1.out; have h2 := hy1.out; omega
              · exact HE.out j (by omega))
            clear heq
            go_wp2
            go_quiet (fail)
            go_wp2
            go_roundw
            case rel => exact ⟨1 + 1, _, by omega, rfl, rfl, HE2⟩
            case measure => simp [intOf]
          · have e1 : (x1 == y1) = false := by simpa using heq
            have e2 : (x1 != y1) = true := by simpa using heq
            have HF := hid (show betterB (c) (en : Nat) (d) (fn : Nat) = decide (y1 < x1) by
              rw [HB.out]
              have h1 := hx1.out
              have h2 := hy1.out
              have h3 : dg Y 1 < dg X 1 ↔ Y < X := A1.out (HE.out 0 (by omega)) (fun hh => heq (by omega))
              by_cases h : Y < X
              · have := h3.2 h; rw [decide_eq_true h, decide_eq_true (by omega)]
              · have : ¬ dg Y 1 < dg X 1 := fun hh => h (h3.1 hh)
                rw [decide_eq_false h, decide_eq_false (by omega)])
            clear heq
            go_wp2
            go_quiet (fail)
            go_wp2
            go_quiet (fail)
            go_wp2
            go_ret
            exact ⟨by rw [HF.out]; rfl, BV.out.trans ((below_drN3 V _ _ _).mono BV.out.size)⟩
        by_cases h2 : k = 2
        · subst h2
          have cx : V.cell? ⟨w2.heap.size, 2, none⟩ = some (.int .u64 x2) := Blk.cell P1.out 2
          have cy : V.cell? ⟨w2.heap.size + 1, 2, none⟩ = some (.int .u64 y2) := Blk.cell P2.out 2
          by_cases heq : x2 = y2
          · have e1 : (x2 == y2) = true := by simpa using heq
            have e2 : (x2 != y2) = false := by simpa using heq
            have HE2 := hid (show ∀ j, j < 2 + 1 → dg X j = dg Y j from fun j hj => by
              by_cases e : j = 2
              · subst e; have h1 := hx2.out; have h2 := hy2.out; omega
              · exact HE.out j (by omega))
            clear heq
            go_wp2
            go_quiet (fail)
            go_wp2
            go_roundw
            case rel => exact ⟨2 + 1, _, by omega, rfl, rfl, HE2⟩
            case measure => simp [intOf]
          · have e1 : (x2 == y2) = false := by simpa using heq
            have e2 : (x2 != y2) = true := by simpa using heq
            have HF := hid (show betterB (c) (en : Nat) (d) (fn : Nat) = decide (y2 < x2) by
              rw [HB.out]
              have h1 := hx2.out
              have h2 := hy2.out
              have h3 : dg Y 2 < dg X 2 ↔ Y < X := A2.out (HE.out 0 (by omega)) (HE.out 1 (by omega)) (fun hh => heq (by omega))
              by_cases h : Y < X
              · have := h3.2 h; rw [decide_eq_true h, decide_eq_true (by omega)]
              · have : ¬ dg Y 2 < dg X 2 := fun hh => h (h3.1 hh)
                rw [decide_eq_false h, decide_eq_false (by omega)])
            clear heq
            go_wp2
            go_quiet (fail)
            go_wp2
            go_quiet (fail)
            go_wp2
            go_ret
            exact ⟨by rw [HF.out]; rfl, BV.out.trans ((below_drN3 V _ _ _).mono BV.out.size)⟩
        obtain rfl : k = 3 := by omega
        have HF := hid (show betterB (c) (en : Nat) (d) (fn : Nat) = false by
          rw [HB.out]
          have := A3.out (HE.out 0 (by omega)) (HE.out 1 (by omega)) (HE.out 2 (by omega))
          simp; omega)
        clear h0 h1 h2
        go_wp2
        go_ret
        exact ⟨by rw [HF.out]; rfl, BW.out⟩

end Go.Proofs.YthoiikkjjaldnaaDoor
