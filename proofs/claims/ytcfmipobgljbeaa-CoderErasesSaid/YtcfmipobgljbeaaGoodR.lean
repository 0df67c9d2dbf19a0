/- The reference's GoodMemory, and both sides' Fresh. -/
import Derived.Test.YtcfmipobgljbeaaGoodW
namespace Go.Proofs.Ytcfmipobgljbeaa
set_option linter.unusedVariables false
set_option linter.unusedSimpArgs false
set_option maxRecDepth 100000
open Go.RowKit

def freshM : Mm := ⟨List.replicate 8 0, List.replicate 8 0, List.replicate 80 0, 0, 0, 20, 0, 21845, false⟩
theorem freshM_ok : freshM.ok := ⟨rfl, rfl, rfl⟩
theorem freshM_ag : (Try.zeroCells44.setIfInBounds 98 (.int .i64 20)).setIfInBounds 100 (.int .i64 21845) = freshM.ag := by kernel_rfl
set_option maxHeartbeats 4000000 in
theorem refFresh_any (w : World) : Calls Try.prog 24 #[] w fun e w' => e = .returned (.agg freshM.ag) ∧ Below w.heap.size w w' := by
  have hR := results_mem1 (fn := Try.f24) (p := 0) rfl
  have HZ : MB (w.alloc (.cells Try.zeroCells44 44)) w.heap.size zeroM := by rw [zeroM_ag]; exact MB.new w zeroM
  have HZ := hid HZ
  go_enter Try.func24, Try.ntmps24
  go_wp2_with (refine wpList_storeM rfl (.tmp 0) (.tmp 1) rfl _ zeroM freshM rfl (congrArg Value.agg freshM_ag) HZ.out zeroM_ok freshM_ok ?_)
  refine bodyPost_ret (v := _) (hR _ _ _ freshM rfl (MB.setRow HZ.out freshM) freshM_ok) rfl ?_
  exact ⟨rfl, below_setRow ((Below.refl _ w).alloc (Nat.le_refl _) _) (Nat.le_refl _) _⟩

theorem rs_midRange {w : World} {g o B : Nat} {xs : List Int} (h : w.rangeAt g o (ints xs)) (hg : g < B) : Rs w B (some ⟨g, o, none⟩) xs :=
  ⟨by simp [ints], fun _ => ⟨_, rfl, hg, fun j u hu => by
    have e : (⟨g, o, none⟩ : Addr).add j = ⟨g, o + j, none⟩ := Addr.add_mid g o j
    rw [e]
    exact h j u hu⟩⟩
theorem refIn_any (x hi : Int) (w : World) : Calls Try.prog 92 #[.int .i64 x, .int .i64 hi] w fun e w' => e = .returned (.bool (decide (0 ≤ x ∧ x ≤ hi))) ∧ w = w' := by
  go_enter Try.func92, Try.ntmps92
  by_cases h1 : 0 ≤ x
  · go_wp2
    go_ret
    exact ⟨by simp [h1], rfl⟩
  · have h2 : decide (0 ≤ x ∧ x ≤ hi) = false := decide_eq_false (fun h => h1 h.1)
    go_wp2
    go_ret
    exact ⟨by first | rfl | (rw [h2]; rfl), rfl⟩
theorem refIn_yes {x hi : Int} {w : World} (h : 0 ≤ x ∧ x ≤ hi) : Calls Try.prog 92 #[.int .i64 x, .int .i64 hi] w fun e w' => e = .returned (.bool true) ∧ w = w' := by
  have := refIn_any x hi w
  rwa [decide_eq_true h] at this
theorem refIn_no {x hi : Int} {w : World} (h : ¬ (0 ≤ x ∧ x ≤ hi)) : Calls Try.prog 92 #[.int .i64 x, .int .i64 hi] w fun e w' => e = .returned (.bool false) ∧ w = w' := by
  have := refIn_any x hi w
  rwa [decide_eq_false h] at this
set_option maxHeartbeats 4000000 in
theorem refGood_any (m : Mm) (k : m.ok) (hw64 : W64 m.nums) (w : World) : Calls Try.prog 62 #[.agg m.ag] w (AnsB' w (goodM m)) := by
  have I0 := hid (MB.new w m)
  have HB := hid ((Below.refl _ w).alloc (Nat.le_refl _) (.cells m.ag 44))
  have hlt : w.heap.size < (w.alloc (.cells m.ag 44)).heap.size := by simp
  obtain ⟨W, hW⟩ : ∃ W, W = w.alloc (.cells m.ag 44) := ⟨_, rfl⟩
  rw [← hW] at I0 HB hlt
  have HW := hid hW
  have HLT := hid hlt
  clear hW hlt
  have K := hid k
  have HI8 := hid (fun (xs : List Int) (hx : xs.length = 8) (j : Nat) (hj : j < 8) (w : World) => show (Instr.index 42 (.agg (ints xs).toArray) (.int .i64 (j : Nat))).run Try.prog w = .ok (.int .i64 (xs.getD j 0)) w from run_index_agi Try.underlying42 xs hx j hj w)
  have KP := hid (Right_any (some ⟨w.heap.size, 8, none⟩) 8 8 W.heap.size m.p W (rs_midRange (I0.out.P K.out) HLT.out) k.p (by omega))
  have KE := hid (Right_any (some ⟨w.heap.size, 16, none⟩) 80 80 W.heap.size m.e W (rs_midRange (I0.out.E K.out) HLT.out) k.e (by omega))
  clear k
  go_enter Try.func62, Try.ntmps62
  go_wp2_with (first
    | (rw [← HW.out])
    | (refine wpList_load_mid rfl 42 (.tmp 6) rfl _ _ rfl (ints m.r) _ (I0.out.R K.out) Try.underlying42 rfl (by rw [ints_len, K.out.r]; exact size8') ?_))
  go_loop [8] (fun iv => ∃ k : Nat, k ≤ 8 ∧ iv = .int .i64 k ∧ Hid (allTo okK m.r k)) (fun iv => 8 - (intOf iv).toNat)
  case atStart => exact ⟨0, by omega, rfl, hid allTo.zero⟩
  case round =>
    obtain ⟨k, hk, rfl, HY⟩ := hrel
    by_cases hlt : k < 8
    · have hix := HI8.out m.r K.out.r k hlt
      obtain ⟨x, hx⟩ : ∃ x, x = m.r.getD k 0 := ⟨_, rfl⟩
      rw [← hx] at hix
      have HX := hid hx
      clear hx
      by_cases b1 : x < -31000
      · have HF := hid (show goodM m = false from goodM_r (all_no (i := k) (by rw [K.out.r]; exact hlt) (okK_no (by rw [← HX.out]; exact .inl b1))))
        go_wp2
        go_ret
        exact ⟨by rw [HF.out]; rfl, HB.out⟩
      by_cases b2 : 31000 < x
      · have HF := hid (show goodM m = false from goodM_r (all_no (i := k) (by rw [K.out.r]; exact hlt) (okK_no (by rw [← HX.out]; exact .inr b2))))
        go_wp2
        go_ret
        exact ⟨by rw [HF.out]; rfl, HB.out⟩
      have HN := hid (HY.out.succ (by rw [← HX.out]; exact okK_yes (by omega) (by omega)))
      go_wp2
      go_round
      case rel => exact ⟨k + 1, by omega, by go_num, HN⟩
      case measure => simp [intOf] <;> omega
    · obtain rfl : k = 8 := by omega
      have HR := hid (show m.r.all okK = true from HY.out.all (by rw [K.out.r]; exact Nat.le_refl _))
      clear HY hlt hk
      have a1 : W.cell? ⟨w.heap.size, 98, none⟩ = some (.int .i64 m.la) := I0.out.cla K.out
      have a2 : W.cell? ⟨w.heap.size, 100, none⟩ = some (.int .i64 m.se) := I0.out.cse K.out
      have a3 : W.cell? ⟨w.heap.size, 96, none⟩ = some (.int .i64 m.ga) := I0.out.cga K.out
      have a4 : W.cell? ⟨w.heap.size, 97, none⟩ = some (.int .i64 m.pi) := I0.out.cpi K.out
      have a5 : W.cell? ⟨w.heap.size, 99, none⟩ = some (.int .i64 m.er) := I0.out.cer K.out
      have wla := hw64 m.la (by unfold Mm.nums; simp)
      obtain ⟨x, hx⟩ : ∃ x, IntKind.i64.wrap (m.la - 20) = x := ⟨_, rfl⟩
      have hx' : x = (m.la - 20 + 9223372036854775808) % 18446744073709551616 - 9223372036854775808 := by rw [← hx, IntKind.wrap_i64]
      have HX := hid hx'
      clear hx'
      cases g1 : all16 m.p with
      | false =>
        have KP' := KP.out
        rw [g1] at KP'
        have C1 := hid KP'
        have HF := hid (show goodM m = false from goodM_p g1)
        clear KP'
        go_wp2_with (first
          | (go_at_call 28; (first | (with_reducible refine C1.out.mono ?_) | (with_reducible refine C2.out.mono ?_)); rintro e w' ⟨rfl, rfl⟩)
          | (go_at_call 92; (first | (with_reducible refine C3.out.mono ?_) | (with_reducible refine C4.out.mono ?_) | (with_reducible refine C5.out.mono ?_) | (with_reducible refine C6.out.mono ?_) | (with_reducible refine C7.out.mono ?_)); rintro e w' ⟨rfl, rfl⟩))
        go_ret
        exact ⟨by rw [HF.out]; rfl, HB.out⟩
      | true =>
      have KP' := KP.out
      rw [g1] at KP'
      have C1 := hid KP'
      have HP := hid g1
      clear KP' g1
      cases g2 : all16 m.e with
      | false =>
        have KE' := KE.out
        rw [g2] at KE'
        have C2 := hid KE'
        have HF := hid (show goodM m = false from goodM_e g2)
        clear KE'
        go_wp2_with (first
          | (go_at_call 28; (first | (with_reducible refine C1.out.mono ?_) | (with_reducible refine C2.out.mono ?_)); rintro e w' ⟨rfl, rfl⟩)
          | (go_at_call 92; (first | (with_reducible refine C3.out.mono ?_) | (with_reducible refine C4.out.mono ?_) | (with_reducible refine C5.out.mono ?_) | (with_reducible refine C6.out.mono ?_) | (with_reducible refine C7.out.mono ?_)); rintro e w' ⟨rfl, rfl⟩))
        go_ret
        exact ⟨by rw [HF.out]; rfl, HB.out⟩
      | true =>
      have KE' := KE.out
      rw [g2] at KE'
      have C2 := hid KE'
      have HE := hid g2
      clear KE' g2
      by_cases gC3 : 20 ≤ m.la ∧ m.la ≤ 79
      rotate_left
      · have C3 := hid (refIn_no (x := x) (hi := 59) (w := W) (by have := HX.out; omega))
        have HF := hid (show goodM m = false from goodM_t (by unfold tailM; intro h; omega))
        clear gC3
        go_wp2_with (first
          | (go_at_call 28; (first | (with_reducible refine C1.out.mono ?_) | (with_reducible refine C2.out.mono ?_)); rintro e w' ⟨rfl, rfl⟩)
          | (go_at_call 92; (first | (with_reducible refine C3.out.mono ?_) | (with_reducible refine C4.out.mono ?_) | (with_reducible refine C5.out.mono ?_) | (with_reducible refine C6.out.mono ?_) | (with_reducible refine C7.out.mono ?_)); rintro e w' ⟨rfl, rfl⟩))
        go_ret
        exact ⟨by rw [HF.out]; rfl, HB.out⟩
      have C3 := hid (refIn_yes (x := x) (hi := 59) (w := W) (by have := HX.out; omega))
      have GC3 := hid gC3
      clear gC3
      by_cases gC4 : 0 ≤ m.se ∧ m.se < 65536
      rotate_left
      · have C4 := hid (refIn_no (x := m.se) (hi := 65535) (w := W) (by have := HX.out; omega))
        have HF := hid (show goodM m = false from goodM_t (by unfold tailM; intro h; omega))
        clear gC4
        go_wp2_with (first
          | (go_at_call 28; (first | (with_reducible refine C1.out.mono ?_) | (with_reducible refine C2.out.mono ?_)); rintro e w' ⟨rfl, rfl⟩)
          | (go_at_call 92; (first | (with_reducible refine C3.out.mono ?_) | (with_reducible refine C4.out.mono ?_) | (with_reducible refine C5.out.mono ?_) | (with_reducible refine C6.out.mono ?_) | (with_reducible refine C7.out.mono ?_)); rintro e w' ⟨rfl, rfl⟩))
        go_ret
        exact ⟨by rw [HF.out]; rfl, HB.out⟩
      have C4 := hid (refIn_yes (x := m.se) (hi := 65535) (w := W) (by have := HX.out; omega))
      have GC4 := hid gC4
      clear gC4
      by_cases gC5 : 0 ≤ m.ga ∧ m.ga ≤ 32767
      rotate_left
      · have C5 := hid (refIn_no (x := m.ga) (hi := 32767) (w := W) (by have := HX.out; omega))
        have HF := hid (show goodM m = false from goodM_t (by unfold tailM; intro h; omega))
        clear gC5
        go_wp2_with (first
          | (go_at_call 28; (first | (with_reducible refine C1.out.mono ?_) | (with_reducible refine C2.out.mono ?_)); rintro e w' ⟨rfl, rfl⟩)
          | (go_at_call 92; (first | (with_reducible refine C3.out.mono ?_) | (with_reducible refine C4.out.mono ?_) | (with_reducible refine C5.out.mono ?_) | (with_reducible refine C6.out.mono ?_) | (with_reducible refine C7.out.mono ?_)); rintro e w' ⟨rfl, rfl⟩))
        go_ret
        exact ⟨by rw [HF.out]; rfl, HB.out⟩
      have C5 := hid (refIn_yes (x := m.ga) (hi := 32767) (w := W) (by have := HX.out; omega))
      have GC5 := hid gC5
      clear gC5
      by_cases gC6 : 0 ≤ m.pi ∧ m.pi ≤ 18022
      rotate_left
      · have C6 := hid (refIn_no (x := m.pi) (hi := 18022) (w := W) (by have := HX.out; omega))
        have HF := hid (show goodM m = false from goodM_t (by unfold tailM; intro h; omega))
        clear gC6
        go_wp2_with (first
          | (go_at_call 28; (first | (with_reducible refine C1.out.mono ?_) | (with_reducible refine C2.out.mono ?_)); rintro e w' ⟨rfl, rfl⟩)
          | (go_at_call 92; (first | (with_reducible refine C3.out.mono ?_) | (with_reducible refine C4.out.mono ?_) | (with_reducible refine C5.out.mono ?_) | (with_reducible refine C6.out.mono ?_) | (with_reducible refine C7.out.mono ?_)); rintro e w' ⟨rfl, rfl⟩))
        go_ret
        exact ⟨by rw [HF.out]; rfl, HB.out⟩
      have C6 := hid (refIn_yes (x := m.pi) (hi := 18022) (w := W) (by have := HX.out; omega))
      have GC6 := hid gC6
      clear gC6
      by_cases gC7 : 0 ≤ m.er ∧ m.er ≤ 6
      rotate_left
      · have C7 := hid (refIn_no (x := m.er) (hi := 6) (w := W) (by have := HX.out; omega))
        have HF := hid (show goodM m = false from goodM_t (by unfold tailM; intro h; omega))
        clear gC7
        go_wp2_with (first
          | (go_at_call 28; (first | (with_reducible refine C1.out.mono ?_) | (with_reducible refine C2.out.mono ?_)); rintro e w' ⟨rfl, rfl⟩)
          | (go_at_call 92; (first | (with_reducible refine C3.out.mono ?_) | (with_reducible refine C4.out.mono ?_) | (with_reducible refine C5.out.mono ?_) | (with_reducible refine C6.out.mono ?_) | (with_reducible refine C7.out.mono ?_)); rintro e w' ⟨rfl, rfl⟩))
        go_ret
        exact ⟨by rw [HF.out]; rfl, HB.out⟩
      have C7 := hid (refIn_yes (x := m.er) (hi := 6) (w := W) (by have := HX.out; omega))
      have GC7 := hid gC7
      clear gC7
      have HF := hid (show goodM m = true from goodM_yes HR.out HP.out HE.out ⟨GC3.out, GC4.out, GC5.out, GC6.out, GC7.out⟩)
      go_wp2_with (first
        | (go_at_call 28; (first | (with_reducible refine C1.out.mono ?_) | (with_reducible refine C2.out.mono ?_)); rintro e w' ⟨rfl, rfl⟩)
        | (go_at_call 92; (first | (with_reducible refine C3.out.mono ?_) | (with_reducible refine C4.out.mono ?_) | (with_reducible refine C5.out.mono ?_) | (with_reducible refine C6.out.mono ?_) | (with_reducible refine C7.out.mono ?_)); rintro e w' ⟨rfl, rfl⟩))
      go_ret
      exact ⟨by rw [HF.out]; rfl, HB.out⟩
end Go.Proofs.Ytcfmipobgljbeaa
