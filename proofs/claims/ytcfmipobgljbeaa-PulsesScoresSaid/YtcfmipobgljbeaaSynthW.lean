/- The walk of package synth's good, guess and push. -/
import Derived.Test.YtcfmipobgljbeaaSynthM
import Derived.Test.YtcfmipobgljbeaaSteadyW
import Derived.Test.YtcfmipobgljbeaaExpW
import Derived.Laws.CopyOwn
import Derived.Deep.RegionLaw
namespace Go.Proofs.Ytcfmipobgljbeaa
set_option linter.unusedVariables false
set_option linter.unusedSimpArgs false
set_option maxRecDepth 100000
open Go.RowKit

set_option maxHeartbeats 4000000 in
theorem synthgood_any (a p l : List Int) (A : Option Addr) (c n B : Nat) (w : World) (ha : a.length = 9) (hp : p.length = 8) (hr : Rs w w.heap.size A l) (hn : l.length = n) (hl : n ≤ 17592186044416) :
    Calls Try.prog 112 #[.agg (agi a), .agg (agi p), .slice A n c] w (AnsB w (goodF a p l)) := by
  have hI := hid (IB.new w 23 a)
  have hJ := IB.new (w.alloc (.cells (agi a) 23)) 42 p
  simp only [World.size_alloc] at hJ
  have hJ := hid hJ
  have hI := hid (Blk.alloc hI.out (.cells (agi p) 42))
  have HA := hid ha
  have HP := hid hp
  have HN := hid hn
  have HR := hid (hr.below (((Below.refl _ w).alloc (Nat.le_refl _) (.cells (agi a) 23)).alloc (by simp) (.cells (agi p) 42)))
  have HB := hid (((Below.refl _ w).alloc (Nat.le_refl _) (.cells (agi a) 23)).alloc (by simp) (.cells (agi p) 42))
  have hix := fun (k : Nat) (hk : k < 9) (w : World) => run_index_agi Try.underlying23 a ha k hk w
  have HIX := hid hix
  have hjx := fun (k : Nat) (hk : k < 8) (w : World) => run_index_agi Try.underlying42 p hp k hk w
  have HJX := hid hjx
  clear ha hp hn hr hix hjx
  have c0 := IB.cell hI.out 0 (by rw [HA.out]; omega)
  obtain ⟨a0, ha0⟩ : ∃ a0, a0 = a.getD 0 0 := ⟨_, rfl⟩
  rw [← ha0] at c0
  have HA0 := hid ha0
  have C0 := hid c0
  clear ha0 c0
  go_enter Try.func112, Try.ntmps112
  go_wp2_with (refine wpList_loadI rfl 23 (.tmp 3) rfl _ 23 a 9 _ rfl hI.out Try.underlying23 rfl size9 HA.out ?_)
  go_loop [14] (fun iv => ∃ k : Nat, k ≤ 9 ∧ iv = .int .i64 k ∧ Hid (allTo okP1 a k)) (fun iv => 9 - (intOf iv).toNat)
  case atStart => exact ⟨0, by omega, rfl, hid allTo.zero⟩
  case round =>
    obtain ⟨k, hk, rfl, HY⟩ := hrel
    by_cases hlt : k < 9
    · have hix := HIX.out k hlt
      obtain ⟨x, hx⟩ : ∃ x, x = a.getD k 0 := ⟨_, rfl⟩
      rw [← hx] at hix
      have HX := hid hx
      clear hx
      by_cases b1 : x < -1048576
      · have HF := hid (show okP a = false from all_no (i := k) (by rw [HA.out]; exact hlt) (okP1_no (by rw [← HX.out]; exact .inl b1)))
        go_wp2
        go_ret
        exact ⟨by unfold goodF; rw [HF.out]; rfl, HB.out⟩
      by_cases b2 : 1048576 < x
      · have HF := hid (show okP a = false from all_no (i := k) (by rw [HA.out]; exact hlt) (okP1_no (by rw [← HX.out]; exact .inr b2)))
        go_wp2
        go_ret
        exact ⟨by unfold goodF; rw [HF.out]; rfl, HB.out⟩
      have HN2 := hid (HY.out.succ (by rw [← HX.out]; exact okP1_yes (by omega) (by omega)))
      go_wp2
      go_round
      case rel => exact ⟨k + 1, by omega, by go_num, HN2⟩
      case measure => simp [intOf] <;> omega
    · obtain rfl : k = 9 := by omega
      have HF9 := hid (show okP a = true from HY.out.all (by rw [HA.out]; exact Nat.le_refl _))
      clear hlt HY
      go_wp2_with (refine wpList_loadI rfl 42 (.tmp 4) rfl _ 42 p 8 _ rfl hJ.out Try.underlying42 rfl size8 HP.out ?_)
      go_loop [25] (fun iv => ∃ k : Nat, k ≤ 8 ∧ iv = .int .i64 k ∧ Hid (allTo ok16 p k)) (fun iv => 8 - (intOf iv).toNat)
      case atStart => exact ⟨0, by omega, rfl, hid allTo.zero⟩
      case round =>
        obtain ⟨k, hk, rfl, HY⟩ := hrel
        by_cases hlt : k < 8
        · have hix := HJX.out k hlt
          obtain ⟨x, hx⟩ : ∃ x, x = p.getD k 0 := ⟨_, rfl⟩
          rw [← hx] at hix
          have HX := hid hx
          clear hx
          by_cases hbad : x < -32768 ∨ 32767 < x
          · have HF := hid (show all16 p = false from all_no (i := k) (by rw [HP.out]; exact hlt) (ok16_no (by rw [← HX.out]; exact hbad)))
            have e1 : (x == s16 x) = false := by rw [beq_eq_false_iff_ne]; exact fun h => s16_ne hbad h.symm
            have e2 : (x != s16 x) = true := by rw [bne_iff_ne]; exact fun h => s16_ne hbad h.symm
            clear hbad
            go_wp2_with (go_at_call 113; refine (synthsat_any _ _).mono ?_; rintro e w' ⟨rfl, rfl⟩)
            go_ret
            exact ⟨by unfold goodF; rw [HF.out]; simp, HB.out⟩
          · have HN2 := hid (HY.out.succ (by rw [← HX.out]; exact ok16_yes (by omega) (by omega)))
            have e0 := s16_id (x := x) (by omega) (by omega)
            clear hbad
            go_wp2_with (go_at_call 113; refine (synthsat_any _ _).mono ?_; rintro e w' ⟨rfl, rfl⟩)
            go_round
            case rel => exact ⟨k + 1, by omega, by go_num, HN2⟩
            case measure => simp [intOf] <;> omega
        · obtain rfl : k = 8 := by omega
          have HF8 := hid (show all16 p = true from HY.out.all (by rw [HP.out]; exact Nat.le_refl _))
          clear hlt HY
          go_wp2
          go_loop [35] (fun iv => ∃ k : Nat, k ≤ n ∧ iv = .int .i64 k ∧ Hid (allTo ok16 l k)) (fun iv => n - (intOf iv).toNat)
          case atStart => exact ⟨0, by omega, rfl, hid allTo.zero⟩
          case round =>
            obtain ⟨k, hk, rfl, HY⟩ := hrel
            by_cases hlt : k < n
            · obtain ⟨ad, rfl, _, c1⟩ := HR.out.at_ (k := k) (by rw [HN.out]; exact hlt)
              obtain ⟨x, hx⟩ : ∃ x, x = l.getD k 0 := ⟨_, rfl⟩
              rw [← hx] at c1
              have HX := hid hx
              clear hx
              by_cases hbad : x < -32768 ∨ 32767 < x
              · have HF := hid (show all16 l = false from all_no (i := k) (by rw [HN.out]; exact hlt) (ok16_no (by rw [← HX.out]; exact hbad)))
                have e1 : (x == s16 x) = false := by rw [beq_eq_false_iff_ne]; exact fun h => s16_ne hbad h.symm
                have e2 : (x != s16 x) = true := by rw [bne_iff_ne]; exact fun h => s16_ne hbad h.symm
                clear hbad
                go_wp2_with (go_at_call 113; refine (synthsat_any _ _).mono ?_; rintro e w' ⟨rfl, rfl⟩)
                go_ret
                exact ⟨by unfold goodF; rw [HF.out]; simp, HB.out⟩
              · have HN2 := hid (HY.out.succ (by rw [← HX.out]; exact ok16_yes (by omega) (by omega)))
                have e0 := s16_id (x := x) (by omega) (by omega)
                clear hbad
                go_wp2_with (go_at_call 113; refine (synthsat_any _ _).mono ?_; rintro e w' ⟨rfl, rfl⟩)
                go_round
                case rel => exact ⟨k + 1, by omega, by go_num, HN2⟩
                case measure => simp [intOf] <;> omega
            · have HF := hid (show all16 l = true from HY.out.all (by rw [HN.out]; omega))
              have c0 := C0.out
              go_wp2
              go_ret
              exact ⟨by unfold goodF; rw [HF9.out, HF8.out, HF.out, ← HA0.out]; simp only [Bool.true_and, Bool.and_true]; rfl, HB.out⟩

set_option maxHeartbeats 2000000 in
theorem synthguess_any (a p : List Int) (w : World) (ha : a.length = 9) (hp : p.length = 8) (oa : okP a = true) (op : all16 p = true) :
    Calls Try.prog 114 #[.agg (agi a), .agg (agi p)] w fun e w' => e = .returned (.int .i64 (guessL a p)) ∧ Below w.heap.size w w' := by
  have hI := hid (IB.new w 23 a)
  have hJ := IB.new (w.alloc (.cells (agi a) 23)) 42 p
  simp only [World.size_alloc] at hJ
  have hJ := hid hJ
  have hI := hid (Blk.alloc hI.out (.cells (agi p) 42))
  have HA := hid ha
  have HP := hid hp
  have HB := hid (((Below.refl _ w).alloc (Nat.le_refl _) (.cells (agi a) 23)).alloc (by simp) (.cells (agi p) 42))
  have hjx := fun (k : Nat) (hk : k < 8) (w : World) => run_index_agi Try.underlying42 p hp k hk w
  have HJX := hid hjx
  have OA := hid oa
  have OP := hid op
  clear ha hp hjx oa op
  go_enter Try.func114, Try.ntmps114
  go_wp2_with (refine wpList_loadI rfl 42 (.tmp 3) rfl _ 42 p 8 _ rfl hJ.out Try.underlying42 rfl size8 HP.out ?_)
  go_loop [5, 9] (fun sv iv => ∃ (k : Nat) (s : Int), k ≤ 8 ∧ iv = .int .i64 k ∧ sv = .int .i64 s ∧ Hid (s = 2048 + sumN (gterm a p) k)) (fun _ iv => 8 - (intOf iv).toNat)
  case atStart => exact ⟨0, 2048, by omega, rfl, rfl, hid rfl⟩
  case round =>
    obtain ⟨k, s, hk, rfl, rfl, HS⟩ := hrel
    by_cases hlt : k < 8
    · have hjx := HJX.out k hlt
      have ci := IB.cell hI.out (k + 1) (by rw [HA.out]; omega)
      have tb := gterm_bound OA.out OP.out k
      have sb := gsum_bound OA.out OP.out k
      have HT := hid (show 2048 + sumN (gterm a p) (k + 1) = s + gterm a p k by rw [HS.out]; simp only [sumN]; omega)
      have hs := HS.out
      have s1 : -300000000000 ≤ s := by omega
      have s2 : s ≤ 300000000000 := by omega
      clear hs sb
      unfold gterm at tb HT
      generalize a.getD (k + 1) 0 = x at *
      generalize p.getD k 0 = y at *
      obtain ⟨t1, t2⟩ := tb
      have HS2 := hid (show s + x * y = 2048 + sumN (fun i => a.getD (i + 1) 0 * p.getD i 0) (k + 1) from HT.out.symm)
      clear HT HS
      go_wp2
      go_round
      case rel => exact ⟨k + 1, _, by omega, by go_num, rfl, HS2⟩
      case measure => simp [intOf] <;> omega
    · obtain rfl : k = 8 := by omega
      have HF := hid (show s / 4096 = guessL a p by unfold guessL; rw [HS.out])
      go_wp2
      go_ret
      exact ⟨by rw [← HF.out]; rfl, HB.out⟩
end Go.Proofs.Ytcfmipobgljbeaa
