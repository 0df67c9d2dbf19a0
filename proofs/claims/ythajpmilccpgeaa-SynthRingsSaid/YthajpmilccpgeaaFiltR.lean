/- The walks of the reference's rightFilter, newest and guess. -/
import Derived.Test.YthajpmilccpgeaaPushW
import Derived.Test.YthajpmilccpgeaaDownK
namespace Go.Proofs.Ythajpmilccpgeaa
set_option linter.unusedVariables false
set_option linter.unusedSimpArgs false
set_option maxRecDepth 100000
open Go.RowKit

/-- A block of numbers, read as a slice. -/
theorem rs_block {w : World} {g B : Nat} {t : TypeId} {xs : List Int} (h : IB w g t xs) (hg : g < B) : Rs w B (some ⟨g, 0, none⟩) xs :=
  ⟨by simp [ints], fun _ => ⟨_, rfl, hg, fun j u hu => by
    have hj : j < xs.length := by
      have := (List.getElem?_eq_some_iff.mp hu).1
      rwa [ints_len] at this
    rw [ints_get xs j hj] at hu
    rw [add_zero', ← hu]
    exact IB.cell h j hj⟩⟩

set_option maxHeartbeats 4000000 in
theorem rightFilter_any (a p l : List Int) (A : Option Addr) (c n B : Nat) (w : World) (ha : a.length = 9) (hp : p.length = 8) (hr : Rs w w.heap.size A l) (hn : l.length = n) (hl : n ≤ 17592186044416) :
    Calls Try.prog 66 #[.agg (agi a), .agg (agi p), .slice A n c] w (AnsB w (goodF a p l)) := by
  have hI := hid (IB.new w 37 a)
  have hJ := IB.new (w.alloc (.cells (agi a) 37)) 33 p
  simp only [World.size_alloc] at hJ
  have hRP := hid (show Rs ((w.alloc (.cells (agi a) 37)).alloc (.cells (agi p) 33)) (w.heap.size + 1 + 1) (some ⟨w.heap.size + 1, 0, none⟩) p from rs_block hJ (by omega))
  have hI := hid (Blk.alloc hI.out (.cells (agi p) 33))
  have HA := hid ha
  have HP := hid hp
  have HN := hid hn
  have HR := hid (hr.below (((Below.refl _ w).alloc (Nat.le_refl _) (.cells (agi a) 37)).alloc (by simp) (.cells (agi p) 33)))
  have HB := hid (((Below.refl _ w).alloc (Nat.le_refl _) (.cells (agi a) 37)).alloc (by simp) (.cells (agi p) 33))
  have hix := fun (k : Nat) (hk : k < 9) (w : World) => run_index_agi Try.underlying37 a ha k hk w
  have HIX := hid hix
  have K1 := hid (fun W (h : Rs W (w.heap.size + 1 + 1) (some ⟨w.heap.size + 1, 0, none⟩) p) => Right_any (some ⟨w.heap.size + 1, 0, none⟩) 8 8 (w.heap.size + 1 + 1) p W h hp (by omega))
  have K2 := hid (fun W (h : Rs W w.heap.size A l) => Right_any A c n w.heap.size l W h hn hl)
  clear ha hp hn hr hix hJ
  have c0 := IB.cell hI.out 0 (by rw [HA.out]; omega)
  obtain ⟨a0, ha0⟩ : ∃ a0, a0 = a.getD 0 0 := ⟨_, rfl⟩
  rw [← ha0] at c0
  have HA0 := hid ha0
  have C0 := hid c0
  clear ha0 c0
  go_enter Try.func66, Try.ntmps66
  go_wp2_with (refine wpList_loadI rfl 37 (.tmp 3) rfl _ 37 a 9 _ rfl hI.out Try.underlying37 rfl size9 HA.out ?_)
  go_loop [10] (fun iv => ∃ k : Nat, k ≤ 9 ∧ iv = .int .i64 k ∧ Hid (allTo okP1 a k)) (fun iv => 9 - (intOf iv).toNat)
  case atStart => exact ⟨0, by omega, rfl, hid allTo.zero⟩
  case round =>
    obtain ⟨k, hk, rfl, HY⟩ := hrel
    by_cases hlt : k < 9
    · have hix := HIX.out k hlt
      obtain ⟨x, hx⟩ : ∃ x, x = a.getD k 0 := ⟨_, rfl⟩
      rw [← hx] at hix
      have HX := hid hx
      clear hx
      by_cases b1 : x < -1048576
      · have HF := hid (show okP a = false from all_no (i := k) (by rw [HA.out]; exact hlt) (okP1_no (by rw [← HX.out]; exact .inl b1)))
        go_wp2
        go_ret
        exact ⟨by unfold goodF; rw [HF.out]; rfl, HB.out⟩
      by_cases b2 : 1048576 < x
      · have HF := hid (show okP a = false from all_no (i := k) (by rw [HA.out]; exact hlt) (okP1_no (by rw [← HX.out]; exact .inr b2)))
        go_wp2
        go_ret
        exact ⟨by unfold goodF; rw [HF.out]; rfl, HB.out⟩
      have HN2 := hid (HY.out.succ (by rw [← HX.out]; exact okP1_yes (by omega) (by omega)))
      go_wp2
      go_round
      case rel => exact ⟨k + 1, by omega, by go_num, HN2⟩
      case measure => simp [intOf] <;> omega
    · obtain rfl : k = 9 := by omega
      have HF9 := hid (show okP a = true from HY.out.all (by rw [HA.out]; exact Nat.le_refl _))
      clear hlt HY
      have c0 := C0.out
      by_cases h0 : a0 = 4096
      · have HA1 := hid (show a.getD 0 0 = 4096 by rw [← HA0.out, h0])
        obtain ⟨b2, hb2⟩ : ∃ b2, b2 = all16 p := ⟨_, rfl⟩
        have K1' := hid (K1.out _ hRP.out)
        rw [← hb2] at K1'
        cases b2 with
        | false =>
          have HB2 := hid hb2
          clear hb2
          go_wp2_with (go_at_call 56; (with_reducible refine K1'.out.mono ?_); rintro e w' ⟨rfl, rfl⟩)
          go_ret
          exact ⟨by unfold goodF; rw [HF9.out, HA1.out, ← HB2.out]; rfl, HB.out⟩
        | true =>
          have HB2 := hid hb2
          clear hb2
          go_wp2_with (first
            | (go_at_call 56; (with_reducible refine K1'.out.mono ?_); rintro e w' ⟨rfl, rfl⟩)
            | (go_at_call 56; (with_reducible refine (K2.out _ HR.out).mono ?_); rintro e w' ⟨rfl, rfl⟩))
          go_ret
          exact ⟨by unfold goodF; rw [HF9.out, HA1.out, ← HB2.out]; simp, HB.out⟩
      · have HA1 := hid (show decide (a.getD 0 0 = 4096) = false by rw [← HA0.out]; simpa using h0)
        go_wp2
        go_ret
        exact ⟨by unfold goodF; rw [HF9.out, HA1.out]; rfl, HB.out⟩
end Go.Proofs.Ythajpmilccpgeaa
