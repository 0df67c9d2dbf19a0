/- The walk of the law ConcealGoods. -/
import Derived.Test.YtniechgbbkkncaaGoodR
import Derived.Test.YtniechgbbkkncaaEqS
import Derived.Deep.RegionHeld3
namespace Go.Proofs.Ytniechgbbkkncaa
set_option linter.unusedVariables false
set_option linter.unusedSimpArgs false
set_option maxRecDepth 100000
open Go.RowKit

set_option maxHeartbeats 4000000 in
theorem walkConcealGoods (w : World) (m : Mm) (k : m.ok) (hw64 : W64 m.nums) :
    Calls Try.prog 6 #[.agg m.ag] w fun e w' => e = .returned (.bool true) ∧ Below w.heap.size w w' := by
  have K1 : ∀ W, Calls Try.prog 22 #[.agg m.cs.toArray] W (AnsB' W (goodM m)) := fun W => good_any m k W
  have K2 : ∀ W, Calls Try.prog 23 #[.agg m.cs.toArray] W (AnsB' W (goodM m)) := fun W => refGood_any m k hw64 W
  have K1 := hid K1
  have K2 := hid K2
  have K3 := hid (fun W => fresh_any W)
  have K4 := hid (fun W => refFresh_any W)
  have hI := MB.new w m
  have hB := ((Below.refl _ w).alloc (Nat.le_refl _) (.cells m.ag 42))
  have hs : (w.alloc (.cells m.ag 42)).heap.size = w.heap.size + 1 := by simp
  obtain ⟨W, hW⟩ : ∃ W, W = w.alloc (.cells m.ag 42) := ⟨_, rfl⟩
  rw [← hW] at hI hB hs
  have HW := hid hW
  have HI := hid hI
  have HB := hid hB
  have HS := hid hs
  have rg : W.rangeAt w.heap.size 0 m.cs := MB.whole hI
  have heq := fun w => run_eql_mem freshM freshM_ok w
  have huM := Try.underlying42
  have hiM : (Try.prog.info? 42).map (·.size) = some m.cs.length := by rw [m.len k]; exact sizeM
  generalize goodM m = b at K1 K2
  have hb1 : (b == b) = true := by simp
  have hb2 : (b != b) = false := by simp
  clear hI hB hs hW
  go_enter Try.func6, Try.ntmps6
  go_wp2_with (rw [← HW.out])
  refine wp_region_held_drew (S := fun w' => w'.rangeAt w.heap.size 0 m.cs) (by kernel_rfl) (MB.whole (Blk.drew HI.out)) (fun hHeld => ?_)
  refine' wpAnyH_take (i := 0) rfl (by kernel_rfl) (by kernel_rfl) (by kernel_rfl) (fun _ _ _ h => h) (yieldsIf_load_mid (by rfl) _ _ rfl _ _ rfl m.cs _ (fun _ h => h) huM rfl hiM) hHeld ?_
  try simp only [List.getElem_toArray, List.getElem_cons_zero, List.getElem_cons_succ, Act.put, List.setIfInBounds_toArray, List.set_cons_zero, List.set_cons_succ]
  refine' wpAnyH_take (i := 2) rfl (by kernel_rfl) (by kernel_rfl) (by kernel_rfl) (fun _ _ _ h => h) (yieldsIf_load_mid (by rfl) _ _ rfl _ _ rfl m.cs _ (fun _ h => h) huM rfl hiM) hHeld ?_
  try simp only [List.getElem_toArray, List.getElem_cons_zero, List.getElem_cons_succ, Act.put, List.setIfInBounds_toArray, List.set_cons_zero, List.set_cons_succ]
  refine wpAnyH_ready (rs := [1]) (by kernel_rfl) (by simp) ?_
  refine AllReadyH.cons rfl (fun K hK => ?_) AllReadyH.nil
  clear hHeld
  go_simp
  go_at_call 22
  (with_reducible refine (K1.out W.drew).mono ?_); rintro e w2 ⟨rfl, hBx⟩; have I2 : MB w2 w.heap.size m := Blk.below' (Blk.drew HI.out) hBx; have I2 := hid I2; have B2 := hid ((HB.out.trans (((Below.refl _ _).drew : Below W.heap.size W _).mono HB.out.size)).trans (hBx.mono HB.out.size)); clear hBx
  go_wp2_with fail
  refine hK.out _ _ (MB.whole I2.out) (fun hHeld => ?_)
  clear hK K
  try simp only [List.getElem_toArray, List.getElem_cons_zero, List.getElem_cons_succ, Act.put, List.setIfInBounds_toArray, List.set_cons_zero, List.set_cons_succ]
  refine wpAnyH_ready (rs := [3]) (by kernel_rfl) (by simp) ?_
  refine AllReadyH.cons rfl (fun K hK => ?_) AllReadyH.nil
  clear hHeld
  go_simp
  go_at_call 23
  (with_reducible refine (K2.out w2).mono ?_); rintro e w3 ⟨rfl, hBx⟩; have I3 : MB w3 w.heap.size m := Blk.below' I2.out hBx; have I3 := hid I3; have B3 := hid (B2.out.trans (hBx.mono B2.out.size)); clear hBx
  go_wp2_with fail
  refine hK.out _ _ (MB.whole I3.out) (fun hHeld => ?_)
  clear hK K
  try simp only [List.getElem_toArray, List.getElem_cons_zero, List.getElem_cons_succ, Act.put, List.setIfInBounds_toArray, List.set_cons_zero, List.set_cons_succ]
  refine wpAnyH_take (i := 4) (v := ?_) rfl (by kernel_rfl) (by kernel_rfl) (by kernel_rfl) (fun _ _ _ h => h) (Or.inl ⟨by rfl, ?_⟩) hHeld ?_
  rotate_left
  · intro w hSw; clear hSw; go_simp
    try with_reducible rfl
  try simp only [List.getElem_toArray, List.getElem_cons_zero, List.getElem_cons_succ, Act.put, List.setIfInBounds_toArray, List.set_cons_zero, List.set_cons_succ]
  refine wpAnyH_take (i := 5) (v := ?_) rfl (by kernel_rfl) (by kernel_rfl) (by kernel_rfl) (fun _ _ _ h => h) (Or.inl ⟨by rfl, ?_⟩) hHeld ?_
  rotate_left
  · intro w hSw; clear hSw; go_simp
    try with_reducible rfl
  try simp only [List.getElem_toArray, List.getElem_cons_zero, List.getElem_cons_succ, Act.put, List.setIfInBounds_toArray, List.set_cons_zero, List.set_cons_succ]
  refine wpAnyH_ready (rs := [6]) (by kernel_rfl) (by simp) ?_
  refine AllReadyH.cons rfl (fun K hK => ?_) AllReadyH.nil
  clear hHeld
  go_simp
  go_at_call 24
  (with_reducible refine (K3.out w3).mono ?_); rintro e w4 ⟨rfl, hBx⟩; have I4 : MB w4 w.heap.size m := Blk.below' I3.out hBx; have I4 := hid I4; have B4 := hid (B3.out.trans (hBx.mono B3.out.size)); clear hBx
  go_wp2_with fail
  refine hK.out _ _ (MB.whole I4.out) (fun hHeld => ?_)
  clear hK K
  try simp only [List.getElem_toArray, List.getElem_cons_zero, List.getElem_cons_succ, Act.put, List.setIfInBounds_toArray, List.set_cons_zero, List.set_cons_succ]
  refine wpAnyH_ready (rs := [7]) (by kernel_rfl) (by simp) ?_
  refine AllReadyH.cons rfl (fun K hK => ?_) AllReadyH.nil
  clear hHeld
  go_simp
  go_at_call 25
  (with_reducible refine (K4.out w4).mono ?_); rintro e w5 ⟨rfl, hBx⟩; have I5 : MB w5 w.heap.size m := Blk.below' I4.out hBx; have I5 := hid I5; have B5 := hid (B4.out.trans (hBx.mono B4.out.size)); clear hBx
  go_wp2_with fail
  refine hK.out _ _ (MB.whole I5.out) (fun hHeld => ?_)
  clear hK K
  try simp only [List.getElem_toArray, List.getElem_cons_zero, List.getElem_cons_succ, Act.put, List.setIfInBounds_toArray, List.set_cons_zero, List.set_cons_succ]
  refine wpAnyH_take (i := 8) (v := ?_) rfl (by kernel_rfl) (by kernel_rfl) (by kernel_rfl) (fun _ _ _ h => h) (Or.inl ⟨by rfl, ?_⟩) hHeld ?_
  rotate_left
  · intro w hSw; clear hSw; go_simp
    try with_reducible rfl
  try simp only [List.getElem_toArray, List.getElem_cons_zero, List.getElem_cons_succ, Act.put, List.setIfInBounds_toArray, List.set_cons_zero, List.set_cons_succ]
  refine wpAnyH_take (i := 9) (v := ?_) rfl (by kernel_rfl) (by kernel_rfl) (by kernel_rfl) (fun _ _ _ h => h) (Or.inl ⟨by rfl, ?_⟩) hHeld ?_
  rotate_left
  · intro w hSw; clear hSw; go_simp
    try with_reducible rfl
  try simp only [List.getElem_toArray, List.getElem_cons_zero, List.getElem_cons_succ, Act.put, List.setIfInBounds_toArray, List.set_cons_zero, List.set_cons_succ]
  refine wpAnyH_take (i := 10) (v := ?_) rfl (by kernel_rfl) (by kernel_rfl) (by kernel_rfl) (fun _ _ _ h => h) (Or.inl ⟨by rfl, ?_⟩) hHeld ?_
  rotate_left
  · intro w hSw; clear hSw; go_simp
    try with_reducible rfl
  try simp only [List.getElem_toArray, List.getElem_cons_zero, List.getElem_cons_succ, Act.put, List.setIfInBounds_toArray, List.set_cons_zero, List.set_cons_succ]
  refine wpAnyH_done (by kernel_rfl) ?_ _
  clear hHeld
  simp only [Exit.then]
  go_wp2
  go_ret
  exact ⟨by first | rfl | simp, B5.out⟩
end Go.Proofs.Ytniechgbbkkncaa
