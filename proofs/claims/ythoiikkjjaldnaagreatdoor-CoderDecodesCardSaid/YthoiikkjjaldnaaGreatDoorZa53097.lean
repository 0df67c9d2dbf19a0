/- Texts that the law rests on, laid together: ErW, SilR, MixW, SteadyW, BigMore, MixR, EqA, ExpW, SumM, SynthM, CoM, GainW, Bits, PowW, DotM, DotR, EnerW. -/
import Derived.Test.YthoiikkjjaldnaaGreatDoorZa55587
import Derived.Deep.RegionHeld3
import Derived.Test.YthoiikkjjaldnaaGreatDoorZ685a03
import Derived.RegionTactic
import Derived.Test.YthoiikkjjaldnaaGreatDoorZ203080
import Derived.BigQuiet
import Derived.Laws.StructEq
import Derived.Test.YthoiikkjjaldnaaGreatDoorRows
import Derived.WalkKit
import Derived.Test.YthoiikkjjaldnaaGreatDoorBigMulO
import Derived.Test.YthoiikkjjaldnaaGreatDoorBigAddO
import Derived.Deep.QuietTactic
/- Package conceal's Erased. -/
namespace Go.Proofs.YthoiikkjjaldnaaGreatDoor
set_option linter.unusedVariables false
set_option linter.unusedSimpArgs false
set_option maxRecDepth 100000
open Go.RowKit

/-! Plain facts. -/
def eraZ (m : Mm) : Int := fade m.ga m.er / 4
def eraX (m : Mm) : List Int := mxL m.e (nzL m.se (eraZ m) 40) m.la (fade m.pi m.er) 40
def eraN (m : Mm) : Mm := { m with se := nzE m.se 40, e := keepL m.e (eraX m) }
def er1 (m : Mm) (half : Int) : Int := if half = 0 ∧ m.er < 6 then m.er + 1 else m.er
def eraP (m : Mm) (half : Int) : Mm := { m with er := er1 m half }
def eraB (m : Mm) (half : Int) : Bool := goodM m && decide (0 ≤ half ∧ half ≤ 1)
def eraR (m : Mm) (half : Int) : Mm := if eraB m half then eraN (eraP m half) else zeroM
def eraY (m : Mm) (half : Int) : List Int := if eraB m half then eraX (eraP m half) else []
theorem eraX_good {m : Mm} (h : 20 ≤ m.la ∧ m.la ≤ 79) : mxB m.la (fade m.pi m.er) = true := by
  unfold mxB
  have := fade_range m.pi m.er
  rw [pastB_yes h.1 h.2]
  simp [this.1, this.2]
theorem eraX_len {m : Mm} (h : 20 ≤ m.la ∧ m.la ≤ 79) : (eraX m).length = 40 := by
  unfold eraX
  rw [(mx_good (eraX_good h)).1]
  simp
theorem eraN_ok {m : Mm} (k : m.ok) (h : 20 ≤ m.la ∧ m.la ≤ 79) : (eraN m).ok := ⟨k.r, k.p, keepL_len k.e (eraX_len h)⟩
theorem eraP_ok {m : Mm} (k : m.ok) (half : Int) : (eraP m half).ok := ⟨k.r, k.p, k.e⟩
theorem eraB_good {m : Mm} {half : Int} (h : eraB m half = true) : goodM m = true ∧ 0 ≤ half ∧ half ≤ 1 := by
  unfold eraB at h
  simpa using h
theorem eraR_ok {m : Mm} (k : m.ok) (half : Int) : (eraR m half).ok := by
  unfold eraR
  split
  · next h => exact eraN_ok (eraP_ok k half) (goodM_of (eraB_good h).1).2.2.2.1
  · exact zeroM_ok
theorem eraY_len (m : Mm) (half : Int) : (eraY m half).length ≤ 40 := by
  unfold eraY
  split
  · next h => exact Nat.le_of_eq (eraX_len (goodM_of (eraB_good h).1).2.2.2.1)
  · simp

set_option maxHeartbeats 8000000 in
theorem erased_any (m : Mm) (k : m.ok) (half : Int) (w : World) : Calls Tryz.prog 139 #[.agg m.ag, .int .i64 half] w (NewM w (eraR m half) (eraY m half) (errOf (eraB m half))) := by
  have hR := results_mem3 (fn := Tryz.f139) (p := 4) (q := 5) (r := 6) rfl
  have S0 := hid (Ms.start w m)
  have K := hid k
  have KG := hid (fun W => good_any m k W)
  clear k
  go_enter Tryz.func139, Tryz.ntmps139
  go_wp2_with (refine wpList_loadM rfl (.tmp 2) rfl _ m rfl S0.out.A K.out ?_)
  refine (KG.out _).mono ?_
  rintro e w1 ⟨rfl, hB⟩
  have S1 := hid (S0.out.below hB)
  clear hB S0 KG
  cases hg : goodM m with
  | false =>
    have HE := hid (show eraB m half = false by unfold eraB; rw [hg]; rfl)
    clear hg
    have FR := hid (show eraR m half = zeroM by unfold eraR; rw [HE.out]; rfl)
    have FY := hid (show eraY m half = [] by unfold eraY; rw [HE.out]; rfl)
    have hRow := hid (MB.setRow S1.out.R zeroM)
    have FIN := hid (below_setRow S1.out.bel (g := w.heap.size + 1) (by omega) zeroM.ag)
    go_wp2_with (refine wpList_storeM rfl (.tmp 4) (.tmp 21) rfl _ zeroM zeroM rfl (congrArg Value.agg zeroM_ag) S1.out.R zeroM_ok zeroM_ok ?_)
    refine bodyPost_ret (v := _) (hR _ _ _ zeroM rfl hRow.out zeroM_ok) rfl ?_
    rw [FR.out, FY.out, HE.out]
    exact ⟨none, 0, rfl, Own.nil, FIN.out⟩
  | true =>
  by_cases h1 : half < 0
  · have HE := hid (show eraB m half = false by unfold eraB; simp; omega)
    clear hg
    have FR := hid (show eraR m half = zeroM by unfold eraR; rw [HE.out]; rfl)
    have FY := hid (show eraY m half = [] by unfold eraY; rw [HE.out]; rfl)
    have hRow := hid (MB.setRow S1.out.R zeroM)
    have FIN := hid (below_setRow S1.out.bel (g := w.heap.size + 1) (by omega) zeroM.ag)
    go_wp2_with (refine wpList_storeM rfl (.tmp 4) (.tmp 21) rfl _ zeroM zeroM rfl (congrArg Value.agg zeroM_ag) S1.out.R zeroM_ok zeroM_ok ?_)
    refine bodyPost_ret (v := _) (hR _ _ _ zeroM rfl hRow.out zeroM_ok) rfl ?_
    rw [FR.out, FY.out, HE.out]
    exact ⟨none, 0, rfl, Own.nil, FIN.out⟩
  by_cases h2 : 2 ≤ half
  · have HE := hid (show eraB m half = false by unfold eraB; simp; omega)
    clear hg
    have FR := hid (show eraR m half = zeroM by unfold eraR; rw [HE.out]; rfl)
    have FY := hid (show eraY m half = [] by unfold eraY; rw [HE.out]; rfl)
    have hRow := hid (MB.setRow S1.out.R zeroM)
    have FIN := hid (below_setRow S1.out.bel (g := w.heap.size + 1) (by omega) zeroM.ag)
    go_wp2_with (refine wpList_storeM rfl (.tmp 4) (.tmp 21) rfl _ zeroM zeroM rfl (congrArg Value.agg zeroM_ag) S1.out.R zeroM_ok zeroM_ok ?_)
    refine bodyPost_ret (v := _) (hR _ _ _ zeroM rfl hRow.out zeroM_ok) rfl ?_
    rw [FR.out, FY.out, HE.out]
    exact ⟨none, 0, rfl, Own.nil, FIN.out⟩
  have HE := hid (show eraB m half = true by unfold eraB; rw [hg]; simp; omega)
  have HT := hid (goodM_of hg).2.2.2
  have FR := hid (show eraR m half = eraN (eraP m half) by unfold eraR; rw [HE.out]; rfl)
  have FY := hid (show eraY m half = eraX (eraP m half) by unfold eraY; rw [HE.out]; rfl)
  clear hg
  have key : (half = 0 ∧ m.er < 6) ∨ (half = 0 ∧ m.er = 6) ∨ half = 1 := by
    have := HT.out.2.2.2.2
    omega
  have a5 : w1.cell? ⟨w.heap.size, 99, none⟩ = some (.int .i64 m.er) := S1.out.A.cer K.out
  have f5 : w1.frozen? ⟨w.heap.size, 99, none⟩ = false := MB.frozen S1.out.A 99
  have hM : ∃ m2 : Mm, m2 = eraP m half := ⟨_, rfl⟩
  obtain ⟨m2, hm2⟩ := hM
  rw [← hm2] at FR FY
  have K2 := hid (show m2.ok by rw [hm2]; exact eraP_ok K.out half)
  have HLA := hid (show 20 ≤ m2.la ∧ m2.la ≤ 79 by rw [hm2]; exact HT.out.1)
  rcases key with ⟨rfl, h6⟩ | ⟨rfl, h6⟩ | rfl
  · have hw1 : IntKind.i64.wrap (m.er + 1) = m.er + 1 := by have := HT.out.2.2.2.2; rw [IntKind.wrap_i64]; omega
    have h7 : m.er + 1 ≤ 6 := by omega
    have MM := hid (show Ms w (w1.setCell ⟨w.heap.size, 99, none⟩ (.int .i64 (m.er + 1))) m2 by
      have := S1.out.er K.out (m.er + 1)
      rw [hm2]
      unfold eraP er1
      rw [if_pos ⟨rfl, h6⟩]
      exact this)
    clear hm2 h1 h2
    go_wp2_with fail
    obtain ⟨W2, hW2⟩ : ∃ W2, W2 = w1.setCell ⟨w.heap.size, 99, none⟩ (.int .i64 (m.er + 1)) := ⟨_, rfl⟩
    rw [← hW2] at MM ⊢
    clear hW2 a5 f5 hw1 h6 h7
    have c96 : W2.cell? ⟨w.heap.size, 96, none⟩ = some (.int .i64 m2.ga) := MM.out.A.cga K2.out
    have c99 : W2.cell? ⟨w.heap.size, 99, none⟩ = some (.int .i64 m2.er) := MM.out.A.cer K2.out
    have c100 : W2.cell? ⟨w.heap.size, 100, none⟩ = some (.int .i64 m2.se) := MM.out.A.cse K2.out
    have KN := hid (fun W => show Calls Tryz.prog 144 #[.int .i64 m2.se, .int .i64 (eraZ m2), .int .i64 40] W (NzA W m2.se (eraZ m2) 40) from cnoise_any m2.se (eraZ m2) 40 W (by omega))
    have KM := hid (fun W A c (hr : Rs W W.heap.size A (nzL m2.se (eraZ m2) 40)) => show Calls Tryz.prog 106 #[.agg (ints m2.e).toArray, .int .i64 m2.la, .int .i64 (fade m2.pi m2.er), .slice A 40 c] W (fun e w' => ∃ A c, e = .returned (.tuple #[.slice A 40 c, .int .i64 0]) ∧ Own w' W.heap.size A c (eraX m2) ∧ Below W.heap.size W w') from by
      refine (mix_any m2.e _ m2.la (fade m2.pi m2.er) A c 40 W K2.out.e hr (nzL_len _ _ _) (by omega)).mono ?_
      rintro e w' ⟨A', c', h1, h2, h3⟩
      rw [(mx_good (h := m2.e) (x := nzL m2.se (eraZ m2) 40) (eraX_good HLA.out)).2] at h1
      have hl := eraX_len HLA.out
      unfold eraX at hl
      rw [hl] at h1
      exact ⟨A', c', h1, h2, h3⟩)
    have XL := hid (eraX_len HLA.out)
    have EN := hid (show eraN m2 = { m2 with se := nzE m2.se 40, e := keepL m2.e (eraX m2) } from rfl)
    have KF0 := fun W => fade_any m2.ga m2.er W
    have KG0 := fun W => fade_any m2.pi m2.er W
    have fb := fade_range m2.ga m2.er
    have hwz : IntKind.i64.wrap (eraZ m2) = eraZ m2 := by unfold eraZ; rw [IntKind.wrap_i64]; omega
    have hq : (fade m2.ga m2.er).tdiv 4 = eraZ m2 := by unfold eraZ; exact Int.tdiv_eq_ediv_of_nonneg fb.1
    generalize eraX m2 = x at *
    generalize eraZ m2 = z at *
    generalize fade m2.ga m2.er = f at *
    generalize fade m2.pi m2.er = f2 at *
    have KF := hid KF0
    have KG := hid KG0
    clear KF0 KG0 fb
    refine wp_region_noPanic ?_
    refine wp_region_held_drew (S := fun w' => w'.cell? ⟨w.heap.size, 96, none⟩ = some (.int .i64 m2.ga) ∧ w'.cell? ⟨w.heap.size, 99, none⟩ = some (.int .i64 m2.er)) (by kernel_rfl) ⟨c96, c99⟩ (fun hHeld => ?_)
    refine wpAnyH_take (i := 0) (v := ?_) rfl (by kernel_rfl) (by kernel_rfl) (by kernel_rfl) (fun _ _ _ h => h) (Or.inl ⟨by rfl, ?_⟩) hHeld ?_
    rotate_left
    · intro w hSw; obtain ⟨hS1, hS2⟩ := hSw; go_simp
      try with_reducible rfl
    try simp only [List.getElem_toArray, List.getElem_cons_zero, List.getElem_cons_succ, Act.put, List.setIfInBounds_toArray, List.set_cons_zero, List.set_cons_succ]
    refine wpAnyH_take (i := 2) (v := ?_) rfl (by kernel_rfl) (by kernel_rfl) (by kernel_rfl) (fun _ _ _ h => h) (Or.inl ⟨by rfl, ?_⟩) hHeld ?_
    rotate_left
    · intro w hSw; obtain ⟨hS1, hS2⟩ := hSw; go_simp
      try with_reducible rfl
    try simp only [List.getElem_toArray, List.getElem_cons_zero, List.getElem_cons_succ, Act.put, List.setIfInBounds_toArray, List.set_cons_zero, List.set_cons_succ]
    refine wpAnyH_take (i := 3) (v := ?_) rfl (by kernel_rfl) (by kernel_rfl) (by kernel_rfl) (fun _ _ _ h => h) (Or.inl ⟨by rfl, ?_⟩) hHeld ?_
    rotate_left
    · intro w hSw; obtain ⟨hS1, hS2⟩ := hSw; go_simp
      try with_reducible rfl
    try simp only [List.getElem_toArray, List.getElem_cons_zero, List.getElem_cons_succ, Act.put, List.setIfInBounds_toArray, List.set_cons_zero, List.set_cons_succ]
    refine wpAnyH_take (i := 4) (v := ?_) rfl (by kernel_rfl) (by kernel_rfl) (by kernel_rfl) (fun _ _ _ h => h) (Or.inl ⟨by rfl, ?_⟩) hHeld ?_
    rotate_left
    · intro w hSw; obtain ⟨hS1, hS2⟩ := hSw; go_simp
      try with_reducible rfl
    try simp only [List.getElem_toArray, List.getElem_cons_zero, List.getElem_cons_succ, Act.put, List.setIfInBounds_toArray, List.set_cons_zero, List.set_cons_succ]
    refine wpAnyH_take (i := 5) (v := ?_) rfl (by kernel_rfl) (by kernel_rfl) (by kernel_rfl) (fun _ _ _ h => h) (Or.inl ⟨by rfl, ?_⟩) hHeld ?_
    rotate_left
    · intro w hSw; obtain ⟨hS1, hS2⟩ := hSw; go_simp
      try with_reducible rfl
    try simp only [List.getElem_toArray, List.getElem_cons_zero, List.getElem_cons_succ, Act.put, List.setIfInBounds_toArray, List.set_cons_zero, List.set_cons_succ]
    refine wpAnyH_ready (rs := [1, 6]) (by kernel_rfl) (by simp) ?_
    refine AllReadyH.cons rfl (fun K hK => ?_) (AllReadyH.cons rfl (fun K hK => ?_) AllReadyH.nil)
    · clear hHeld
      go_simp
      refine hK.out _ _ ⟨c96, c99⟩ (fun hHeld => ?_)
      clear hK K
      try simp only [List.getElem_toArray, List.getElem_cons_zero, List.getElem_cons_succ, Act.put, List.setIfInBounds_toArray, List.set_cons_zero, List.set_cons_succ]
      refine wpAnyH_ready (rs := [6]) (by kernel_rfl) (by simp) ?_
      refine AllReadyH.cons rfl (fun K hK => ?_) AllReadyH.nil
      clear hHeld
      go_simp
      go_at_call 184
      (with_reducible refine (KF.out _).mono ?_)
      rintro e' w' ⟨rfl, rfl⟩
      refine hK.out _ _ ⟨c96, c99⟩ (fun hHeld => ?_)
      clear hK K
      try simp only [List.getElem_toArray, List.getElem_cons_zero, List.getElem_cons_succ, Act.put, List.setIfInBounds_toArray, List.set_cons_zero, List.set_cons_succ]
      refine wpAnyH_take (i := 7) (v := ?_) rfl (by kernel_rfl) (by kernel_rfl) (by kernel_rfl) (fun _ _ _ h => h) (Or.inl ⟨by rfl, ?_⟩) hHeld ?_
      rotate_left
      · intro w hSw; obtain ⟨hS1, hS2⟩ := hSw; go_simp
        try with_reducible rfl
      try simp only [List.getElem_toArray, List.getElem_cons_zero, List.getElem_cons_succ, Act.put, List.setIfInBounds_toArray, List.set_cons_zero, List.set_cons_succ]
      refine wpAnyH_ready (rs := [8]) (by kernel_rfl) (by simp) ?_
      refine AllReadyH.cons rfl (fun K hK => ?_) AllReadyH.nil
      clear hHeld
      go_simp
      go_at_call 144
      (with_reducible refine (KN.out W2.drew).mono ?_)
      rintro e' w3 ⟨A3, c3, rfl, hO, hB⟩; have M3 : Ms w w3 m2 := MM.out.drew.below hB; have d96 : w3.cell? ⟨w.heap.size, 96, none⟩ = some (.int .i64 m2.ga) := M3.A.cga K2.out; have d99 : w3.cell? ⟨w.heap.size, 99, none⟩ = some (.int .i64 m2.er) := M3.A.cer K2.out; have d100 : w3.cell? ⟨w.heap.size, 100, none⟩ = some (.int .i64 m2.se) := M3.A.cse K2.out; have g100 : w3.frozen? ⟨w.heap.size, 100, none⟩ = false := MB.frozen M3.A 100; have M4 : Ms w (w3.setCell ⟨w.heap.size, 100, none⟩ (.int .i64 (nzE m2.se 40))) { m2 with se := nzE m2.se 40 } := M3.se K2.out (nzE m2.se 40); have h96 : (w3.setCell ⟨w.heap.size, 100, none⟩ (.int .i64 (nzE m2.se 40))).cell? ⟨w.heap.size, 96, none⟩ = some (.int .i64 m2.ga) := M4.A.cga (K2.out.se _); have h99 : (w3.setCell ⟨w.heap.size, 100, none⟩ (.int .i64 (nzE m2.se 40))).cell? ⟨w.heap.size, 99, none⟩ = some (.int .i64 m2.er) := M4.A.cer (K2.out.se _); have M4 := hid M4; have LT3 := hid M3.lt; have O3 := hid hO; clear hO hB
      refine hK.out _ _ ⟨d96, d99⟩ (fun hHeld => ?_)
      clear hK K
      try simp only [List.getElem_toArray, List.getElem_cons_zero, List.getElem_cons_succ, Act.put, List.setIfInBounds_toArray, List.set_cons_zero, List.set_cons_succ]
      refine wpAnyH_take (i := 9) (v := ?_) rfl (by kernel_rfl) (by kernel_rfl) (by kernel_rfl) (fun _ _ _ h => h) (Or.inl ⟨by rfl, ?_⟩) hHeld ?_
      rotate_left
      · intro w hSw; obtain ⟨hS1, hS2⟩ := hSw; go_simp
        try with_reducible rfl
      try simp only [List.getElem_toArray, List.getElem_cons_zero, List.getElem_cons_succ, Act.put, List.setIfInBounds_toArray, List.set_cons_zero, List.set_cons_succ]
      refine wpAnyH_take (i := 10) (v := ?_) rfl (by kernel_rfl) (by kernel_rfl) (by kernel_rfl) (fun _ _ _ h => h) (Or.inl ⟨by rfl, ?_⟩) hHeld ?_
      rotate_left
      · intro w hSw; obtain ⟨hS1, hS2⟩ := hSw; go_simp
        try with_reducible rfl
      try simp only [List.getElem_toArray, List.getElem_cons_zero, List.getElem_cons_succ, Act.put, List.setIfInBounds_toArray, List.set_cons_zero, List.set_cons_succ]
      refine wpAnyH_take (i := 11) (v := ?_) rfl (by kernel_rfl) (by kernel_rfl) (by kernel_rfl) (fun _ _ _ h => h) (Or.inl ⟨by rfl, ?_⟩) hHeld ?_
      rotate_left
      · intro w hSw; obtain ⟨hS1, hS2⟩ := hSw; go_simp
        try with_reducible rfl
      try simp only [List.getElem_toArray, List.getElem_cons_zero, List.getElem_cons_succ, Act.put, List.setIfInBounds_toArray, List.set_cons_zero, List.set_cons_succ]
      refine wpAnyH_take (i := 12) (v := ?_) rfl (by kernel_rfl) (by kernel_rfl) (by kernel_rfl) (fun _ _ _ h => h) (Or.inl ⟨by rfl, ?_⟩) hHeld ?_
      rotate_left
      · intro w hSw; obtain ⟨hS1, hS2⟩ := hSw; go_simp
        try with_reducible rfl
      try simp only [List.getElem_toArray, List.getElem_cons_zero, List.getElem_cons_succ, Act.put, List.setIfInBounds_toArray, List.set_cons_zero, List.set_cons_succ]
      refine wpAnyH_ready (rs := [13]) (by kernel_rfl) (by simp) ?_
      refine AllReadyH.cons rfl (fun K hK => ?_) AllReadyH.nil
      clear hHeld
      go_simp
      refine hK.out _ _ ⟨h96, h99⟩ (fun hHeld => ?_)
      clear hK K
      try simp only [List.getElem_toArray, List.getElem_cons_zero, List.getElem_cons_succ, Act.put, List.setIfInBounds_toArray, List.set_cons_zero, List.set_cons_succ]
      refine wpAnyH_take (i := 14) (v := ?_) rfl (by kernel_rfl) (by kernel_rfl) (by kernel_rfl) (fun _ _ _ h => h) (Or.inl ⟨by rfl, ?_⟩) hHeld ?_
      rotate_left
      · intro w hSw; obtain ⟨hS1, hS2⟩ := hSw; go_simp
        try with_reducible rfl
      try simp only [List.getElem_toArray, List.getElem_cons_zero, List.getElem_cons_succ, Act.put, List.setIfInBounds_toArray, List.set_cons_zero, List.set_cons_succ]
      refine wpAnyH_done (by kernel_rfl) ?_ _
      clear hHeld
      refine NoPanic.normal ?_
      have O4 := hid (show Own (w3.setCell ⟨w.heap.size, 100, none⟩ (.int .i64 (nzE m2.se 40))) (w.heap.size + 2) A3 c3 (nzL m2.se z 40) from Own.setC (O3.out.more (base' := w.heap.size + 2) (by have := MM.out.lt; exact this)) (by omega) 100 _)
      obtain ⟨W4, hW4⟩ : ∃ W4, W4 = w3.setCell ⟨w.heap.size, 100, none⟩ (.int .i64 (nzE m2.se 40)) := ⟨_, rfl⟩
      clear c96 c99 c100 d96 d99 d100 h96 h99 g100 hq hwz MM KN KF
      rw [← hW4] at M4 O4 ⊢
      clear hW4 M3 O3
      have K3 := hid (K2.out.se (nzE m2.se 40))
      have rg4 : W4.rangeAt w.heap.size 16 (ints m2.e) := M4.out.A.E K3.out
      have c98 : W4.cell? ⟨w.heap.size, 98, none⟩ = some (.int .i64 m2.la) := M4.out.A.cla K3.out
      have c97 : W4.cell? ⟨w.heap.size, 97, none⟩ = some (.int .i64 m2.pi) := M4.out.A.cpi K3.out
      have c99 : W4.cell? ⟨w.heap.size, 99, none⟩ = some (.int .i64 m2.er) := M4.out.A.cer K3.out
      have hu80 := Tryz.underlying23
      have hi80 : (Tryz.prog.info? 23).map (·.size) = some (ints m2.e).length := by rw [ints_len, K2.out.e]; exact size80k
      have R4 := hid (show Rs W4.drew W4.drew.heap.size A3 (nzL m2.se z 40) from O4.out.reads)
      simp only [Exit.then]
      go_wp2_with fail
      go_region_held3 (fun w' => w'.rangeAt w.heap.size 16 (ints m2.e) ∧ w'.cell? ⟨w.heap.size, 98, none⟩ = some (.int .i64 m2.la) ∧ w'.cell? ⟨w.heap.size, 97, none⟩ = some (.int .i64 m2.pi) ∧ w'.cell? ⟨w.heap.size, 99, none⟩ = some (.int .i64 m2.er)) (first | exact ⟨by assumption, by assumption, by assumption, by assumption⟩ | go_keep) (first
        | (go_at_call 184; (with_reducible refine (KG.out _).mono ?_); rintro e' w' ⟨rfl, rfl⟩)
        | (go_at_call 106; (with_reducible refine (KM.out W4.drew A3 c3 R4.out).mono ?_); rintro e' w5 ⟨A5, c5, rfl, hO, hB⟩; have M5 : Ms w w5 { m2 with se := nzE m2.se 40 } := M4.out.drew.below hB; have rg5 : w5.rangeAt w.heap.size 16 (ints m2.e) := M5.A.E K3.out; have d98 : w5.cell? ⟨w.heap.size, 98, none⟩ = some (.int .i64 m2.la) := M5.A.cla K3.out; have d97 : w5.cell? ⟨w.heap.size, 97, none⟩ = some (.int .i64 m2.pi) := M5.A.cpi K3.out; have d99 : w5.cell? ⟨w.heap.size, 99, none⟩ = some (.int .i64 m2.er) := M5.A.cer K3.out; have M5 := hid M5; have O5 := hid (hO.more (base' := w.heap.size + 2) (by have := M4.out.lt; exact this)); clear hO hB))
      rename_i hHeldZ
      clear hHeldZ
      clear rg4 c98 c97 c99 rg5 d98 d97 d99 hu80 M4 O4 R4 KM KG
      have KL := hid (keepL_len K2.out.e XL.out)
      have KK := hid (fun W A c (h : Rs W W.heap.size A x) => show Calls Tryz.prog 107 #[.agg (ints m2.e).toArray, .slice A 40 c] W (Keeps W m2.e x 40) from keep_any m2.e _ A c 40 W K2.out.e h XL.out (by omega))
      have HI80 := hid hi80
      clear hi80
      simp only [Exit.then]
      go_wp2_with (refine wpList_load_mid rfl 23 (.tmp 61) rfl _ _ rfl (ints m2.e) _ (M5.out.A.E K3.out) Tryz.underlying23 rfl HI80.out ?_)
      refine (KK.out w5 A5 c5 O5.out.reads).mono ?_
      rintro e w6 ⟨rfl, hB⟩
      have M6 := hid (M5.out.below hB)
      have O6 := hid (O5.out.below hB)
      clear hB M5 O5 KK
      have hKE := hid (show keepA m2.e x 40 = keepL m2.e x from rfl)
      rw [hKE.out]
      have M7 := hid (M6.out.ex K3.out _ KL.out)
      have O7 := hid (Own.setCs (g := w.heap.size) (by omega) (ints (keepL m2.e x)) 16 _ O6.out)
      have SZ := hid (show (Tryz.prog.info? 23).map (·.size) = some (agi (keepL m2.e x)).size from by rw [agi_size, KL.out]; exact size80k)
      have TH := hid (show w6.there w.heap.size 16 (agi (keepL m2.e x)).size from by rw [agi_size, KL.out]; exact M6.out.A.thereE K3.out)
      have OKS := hid (show (eraN m2).ok by rw [EN.out]; exact (K3.out.ex KL.out))
      obtain ⟨w7, hw7⟩ : ∃ w7, w7 = w6.setCells w.heap.size 16 (ints (keepL m2.e x)) := ⟨_, rfl⟩
      rw [← hw7] at M7 O7
      have HW7 := hid hw7
      have T7 := hid (show Ms w w7 (eraN m2) by rw [EN.out]; exact M7.out)
      clear hw7 M7 EN
      have hRow := hid (MB.setRow T7.out.R (eraN m2))
      have FIN := hid (below_setRow T7.out.bel (g := w.heap.size + 1) (by omega) (eraN m2).ag)
      have OF := hid ((O7.out.setRow (g := w.heap.size + 1) (by omega) (eraN m2).ag).more (base' := w.heap.size) (by omega))
      go_wp2_with (first
        | (refine wpList_store_mid rfl 23 (.tmp 67) (.tmp 65) rfl w.heap.size 16 (agi (keepL m2.e x)) rfl rfl TH.out SZ.out (agi_one _) ?_; rw [show (agi (keepL m2.e x)).toList = ints (keepL m2.e x) from rfl, ← HW7.out])
        | (refine wpList_loadM rfl (.tmp 2) rfl _ (eraN m2) rfl T7.out.A OKS.out ?_)
        | (refine wpList_storeM rfl (.tmp 4) (.tmp 68) rfl _ zeroM (eraN m2) rfl rfl T7.out.R zeroM_ok OKS.out ?_))
      refine bodyPost_ret (v := _) (hR _ _ _ (eraN m2) rfl hRow.out OKS.out) rfl ?_
      rw [FR.out, FY.out, HE.out]
      exact ⟨A5, c5, by rw [XL.out]; rfl, OF.out, FIN.out⟩

    · clear hHeld
      go_simp
      go_at_call 184
      (with_reducible refine (KF.out _).mono ?_)
      rintro e' w' ⟨rfl, rfl⟩
      refine hK.out _ _ ⟨c96, c99⟩ (fun hHeld => ?_)
      clear hK K
      try simp only [List.getElem_toArray, List.getElem_cons_zero, List.getElem_cons_succ, Act.put, List.setIfInBounds_toArray, List.set_cons_zero, List.set_cons_succ]
      refine wpAnyH_take (i := 7) (v := ?_) rfl (by kernel_rfl) (by kernel_rfl) (by kernel_rfl) (fun _ _ _ h => h) (Or.inl ⟨by rfl, ?_⟩) hHeld ?_
      rotate_left
      · intro w hSw; obtain ⟨hS1, hS2⟩ := hSw; go_simp
        try with_reducible rfl
      try simp only [List.getElem_toArray, List.getElem_cons_zero, List.getElem_cons_succ, Act.put, List.setIfInBounds_toArray, List.set_cons_zero, List.set_cons_succ]
      refine wpAnyH_ready (rs := [1]) (by kernel_rfl) (by simp) ?_
      refine AllReadyH.cons rfl (fun K hK => ?_) AllReadyH.nil
      clear hHeld
      go_simp
      refine hK.out _ _ ⟨c96, c99⟩ (fun hHeld => ?_)
      clear hK K
      try simp only [List.getElem_toArray, List.getElem_cons_zero, List.getElem_cons_succ, Act.put, List.setIfInBounds_toArray, List.set_cons_zero, List.set_cons_succ]
      refine wpAnyH_ready (rs := [8]) (by kernel_rfl) (by simp) ?_
      refine AllReadyH.cons rfl (fun K hK => ?_) AllReadyH.nil
      clear hHeld
      go_simp
      go_at_call 144
      (with_reducible refine (KN.out W2.drew).mono ?_)
      rintro e' w3 ⟨A3, c3, rfl, hO, hB⟩; have M3 : Ms w w3 m2 := MM.out.drew.below hB; have d96 : w3.cell? ⟨w.heap.size, 96, none⟩ = some (.int .i64 m2.ga) := M3.A.cga K2.out; have d99 : w3.cell? ⟨w.heap.size, 99, none⟩ = some (.int .i64 m2.er) := M3.A.cer K2.out; have d100 : w3.cell? ⟨w.heap.size, 100, none⟩ = some (.int .i64 m2.se) := M3.A.cse K2.out; have g100 : w3.frozen? ⟨w.heap.size, 100, none⟩ = false := MB.frozen M3.A 100; have M4 : Ms w (w3.setCell ⟨w.heap.size, 100, none⟩ (.int .i64 (nzE m2.se 40))) { m2 with se := nzE m2.se 40 } := M3.se K2.out (nzE m2.se 40); have h96 : (w3.setCell ⟨w.heap.size, 100, none⟩ (.int .i64 (nzE m2.se 40))).cell? ⟨w.heap.size, 96, none⟩ = some (.int .i64 m2.ga) := M4.A.cga (K2.out.se _); have h99 : (w3.setCell ⟨w.heap.size, 100, none⟩ (.int .i64 (nzE m2.se 40))).cell? ⟨w.heap.size, 99, none⟩ = some (.int .i64 m2.er) := M4.A.cer (K2.out.se _); have M4 := hid M4; have LT3 := hid M3.lt; have O3 := hid hO; clear hO hB
      refine hK.out _ _ ⟨d96, d99⟩ (fun hHeld => ?_)
      clear hK K
      try simp only [List.getElem_toArray, List.getElem_cons_zero, List.getElem_cons_succ, Act.put, List.setIfInBounds_toArray, List.set_cons_zero, List.set_cons_succ]
      refine wpAnyH_take (i := 9) (v := ?_) rfl (by kernel_rfl) (by kernel_rfl) (by kernel_rfl) (fun _ _ _ h => h) (Or.inl ⟨by rfl, ?_⟩) hHeld ?_
      rotate_left
      · intro w hSw; obtain ⟨hS1, hS2⟩ := hSw; go_simp
        try with_reducible rfl
      try simp only [List.getElem_toArray, List.getElem_cons_zero, List.getElem_cons_succ, Act.put, List.setIfInBounds_toArray, List.set_cons_zero, List.set_cons_succ]
      refine wpAnyH_take (i := 10) (v := ?_) rfl (by kernel_rfl) (by kernel_rfl) (by kernel_rfl) (fun _ _ _ h => h) (Or.inl ⟨by rfl, ?_⟩) hHeld ?_
      rotate_left
      · intro w hSw; obtain ⟨hS1, hS2⟩ := hSw; go_simp
        try with_reducible rfl
      try simp only [List.getElem_toArray, List.getElem_cons_zero, List.getElem_cons_succ, Act.put, List.setIfInBounds_toArray, List.set_cons_zero, List.set_cons_succ]
      refine wpAnyH_take (i := 11) (v := ?_) rfl (by kernel_rfl) (by kernel_rfl) (by kernel_rfl) (fun _ _ _ h => h) (Or.inl ⟨by rfl, ?_⟩) hHeld ?_
      rotate_left
      · intro w hSw; obtain ⟨hS1, hS2⟩ := hSw; go_simp
        try with_reducible rfl
      try simp only [List.getElem_toArray, List.getElem_cons_zero, List.getElem_cons_succ, Act.put, List.setIfInBounds_toArray, List.set_cons_zero, List.set_cons_succ]
      refine wpAnyH_take (i := 12) (v := ?_) rfl (by kernel_rfl) (by kernel_rfl) (by kernel_rfl) (fun _ _ _ h => h) (Or.inl ⟨by rfl, ?_⟩) hHeld ?_
      rotate_left
      · intro w hSw; obtain ⟨hS1, hS2⟩ := hSw; go_simp
        try with_reducible rfl
      try simp only [List.getElem_toArray, List.getElem_cons_zero, List.getElem_cons_succ, Act.put, List.setIfInBounds_toArray, List.set_cons_zero, List.set_cons_succ]
      refine wpAnyH_ready (rs := [13]) (by kernel_rfl) (by simp) ?_
      refine AllReadyH.cons rfl (fun K hK => ?_) AllReadyH.nil
      clear hHeld
      go_simp
      refine hK.out _ _ ⟨h96, h99⟩ (fun hHeld => ?_)
      clear hK K
      try simp only [List.getElem_toArray, List.getElem_cons_zero, List.getElem_cons_succ, Act.put, List.setIfInBounds_toArray, List.set_cons_zero, List.set_cons_succ]
      refine wpAnyH_take (i := 14) (v := ?_) rfl (by kernel_rfl) (by kernel_rfl) (by kernel_rfl) (fun _ _ _ h => h) (Or.inl ⟨by rfl, ?_⟩) hHeld ?_
      rotate_left
      · intro w hSw; obtain ⟨hS1, hS2⟩ := hSw; go_simp
        try with_reducible rfl
      try simp only [List.getElem_toArray, List.getElem_cons_zero, List.getElem_cons_succ, Act.put, List.setIfInBounds_toArray, List.set_cons_zero, List.set_cons_succ]
      refine wpAnyH_done (by kernel_rfl) ?_ _
      clear hHeld
      refine NoPanic.normal ?_
      have O4 := hid (show Own (w3.setCell ⟨w.heap.size, 100, none⟩ (.int .i64 (nzE m2.se 40))) (w.heap.size + 2) A3 c3 (nzL m2.se z 40) from Own.setC (O3.out.more (base' := w.heap.size + 2) (by have := MM.out.lt; exact this)) (by omega) 100 _)
      obtain ⟨W4, hW4⟩ : ∃ W4, W4 = w3.setCell ⟨w.heap.size, 100, none⟩ (.int .i64 (nzE m2.se 40)) := ⟨_, rfl⟩
      clear c96 c99 c100 d96 d99 d100 h96 h99 g100 hq hwz MM KN KF
      rw [← hW4] at M4 O4 ⊢
      clear hW4 M3 O3
      have K3 := hid (K2.out.se (nzE m2.se 40))
      have rg4 : W4.rangeAt w.heap.size 16 (ints m2.e) := M4.out.A.E K3.out
      have c98 : W4.cell? ⟨w.heap.size, 98, none⟩ = some (.int .i64 m2.la) := M4.out.A.cla K3.out
      have c97 : W4.cell? ⟨w.heap.size, 97, none⟩ = some (.int .i64 m2.pi) := M4.out.A.cpi K3.out
      have c99 : W4.cell? ⟨w.heap.size, 99, none⟩ = some (.int .i64 m2.er) := M4.out.A.cer K3.out
      have hu80 := Tryz.underlying23
      have hi80 : (Tryz.prog.info? 23).map (·.size) = some (ints m2.e).length := by rw [ints_len, K2.out.e]; exact size80k
      have R4 := hid (show Rs W4.drew W4.drew.heap.size A3 (nzL m2.se z 40) from O4.out.reads)
      simp only [Exit.then]
      go_wp2_with fail
      go_region_held3 (fun w' => w'.rangeAt w.heap.size 16 (ints m2.e) ∧ w'.cell? ⟨w.heap.size, 98, none⟩ = some (.int .i64 m2.la) ∧ w'.cell? ⟨w.heap.size, 97, none⟩ = some (.int .i64 m2.pi) ∧ w'.cell? ⟨w.heap.size, 99, none⟩ = some (.int .i64 m2.er)) (first | exact ⟨by assumption, by assumption, by assumption, by assumption⟩ | go_keep) (first
        | (go_at_call 184; (with_reducible refine (KG.out _).mono ?_); rintro e' w' ⟨rfl, rfl⟩)
        | (go_at_call 106; (with_reducible refine (KM.out W4.drew A3 c3 R4.out).mono ?_); rintro e' w5 ⟨A5, c5, rfl, hO, hB⟩; have M5 : Ms w w5 { m2 with se := nzE m2.se 40 } := M4.out.drew.below hB; have rg5 : w5.rangeAt w.heap.size 16 (ints m2.e) := M5.A.E K3.out; have d98 : w5.cell? ⟨w.heap.size, 98, none⟩ = some (.int .i64 m2.la) := M5.A.cla K3.out; have d97 : w5.cell? ⟨w.heap.size, 97, none⟩ = some (.int .i64 m2.pi) := M5.A.cpi K3.out; have d99 : w5.cell? ⟨w.heap.size, 99, none⟩ = some (.int .i64 m2.er) := M5.A.cer K3.out; have M5 := hid M5; have O5 := hid (hO.more (base' := w.heap.size + 2) (by have := M4.out.lt; exact this)); clear hO hB))
      rename_i hHeldZ
      clear hHeldZ
      clear rg4 c98 c97 c99 rg5 d98 d97 d99 hu80 M4 O4 R4 KM KG
      have KL := hid (keepL_len K2.out.e XL.out)
      have KK := hid (fun W A c (h : Rs W W.heap.size A x) => show Calls Tryz.prog 107 #[.agg (ints m2.e).toArray, .slice A 40 c] W (Keeps W m2.e x 40) from keep_any m2.e _ A c 40 W K2.out.e h XL.out (by omega))
      have HI80 := hid hi80
      clear hi80
      simp only [Exit.then]
      go_wp2_with (refine wpList_load_mid rfl 23 (.tmp 61) rfl _ _ rfl (ints m2.e) _ (M5.out.A.E K3.out) Tryz.underlying23 rfl HI80.out ?_)
      refine (KK.out w5 A5 c5 O5.out.reads).mono ?_
      rintro e w6 ⟨rfl, hB⟩
      have M6 := hid (M5.out.below hB)
      have O6 := hid (O5.out.below hB)
      clear hB M5 O5 KK
      have hKE := hid (show keepA m2.e x 40 = keepL m2.e x from rfl)
      rw [hKE.out]
      have M7 := hid (M6.out.ex K3.out _ KL.out)
      have O7 := hid (Own.setCs (g := w.heap.size) (by omega) (ints (keepL m2.e x)) 16 _ O6.out)
      have SZ := hid (show (Tryz.prog.info? 23).map (·.size) = some (agi (keepL m2.e x)).size from by rw [agi_size, KL.out]; exact size80k)
      have TH := hid (show w6.there w.heap.size 16 (agi (keepL m2.e x)).size from by rw [agi_size, KL.out]; exact M6.out.A.thereE K3.out)
      have OKS := hid (show (eraN m2).ok by rw [EN.out]; exact (K3.out.ex KL.out))
      obtain ⟨w7, hw7⟩ : ∃ w7, w7 = w6.setCells w.heap.size 16 (ints (keepL m2.e x)) := ⟨_, rfl⟩
      rw [← hw7] at M7 O7
      have HW7 := hid hw7
      have T7 := hid (show Ms w w7 (eraN m2) by rw [EN.out]; exact M7.out)
      clear hw7 M7 EN
      have hRow := hid (MB.setRow T7.out.R (eraN m2))
      have FIN := hid (below_setRow T7.out.bel (g := w.heap.size + 1) (by omega) (eraN m2).ag)
      have OF := hid ((O7.out.setRow (g := w.heap.size + 1) (by omega) (eraN m2).ag).more (base' := w.heap.size) (by omega))
      go_wp2_with (first
        | (refine wpList_store_mid rfl 23 (.tmp 67) (.tmp 65) rfl w.heap.size 16 (agi (keepL m2.e x)) rfl rfl TH.out SZ.out (agi_one _) ?_; rw [show (agi (keepL m2.e x)).toList = ints (keepL m2.e x) from rfl, ← HW7.out])
        | (refine wpList_loadM rfl (.tmp 2) rfl _ (eraN m2) rfl T7.out.A OKS.out ?_)
        | (refine wpList_storeM rfl (.tmp 4) (.tmp 68) rfl _ zeroM (eraN m2) rfl rfl T7.out.R zeroM_ok OKS.out ?_))
      refine bodyPost_ret (v := _) (hR _ _ _ (eraN m2) rfl hRow.out OKS.out) rfl ?_
      rw [FR.out, FY.out, HE.out]
      exact ⟨A5, c5, by rw [XL.out]; rfl, OF.out, FIN.out⟩
  · have h6' := hid h6
    have a6 : w1.cell? ⟨w.heap.size, 99, none⟩ = some (.int .i64 6) := by rw [a5, h6]
    have MM := hid (show Ms w (w1.setCell ⟨w.heap.size, 99, none⟩ (.int .i64 6)) m2 by
      have := S1.out.er K.out 6
      rw [hm2]
      unfold eraP er1
      rw [if_neg (by omega), h6]
      exact this)
    clear hm2 h1 h2 h6 a5
    go_wp2_with fail
    obtain ⟨W2, hW2⟩ : ∃ W2, W2 = w1.setCell ⟨w.heap.size, 99, none⟩ (.int .i64 6) := ⟨_, rfl⟩
    rw [← hW2] at MM ⊢
    clear hW2 a6 f5 h6'
    have c96 : W2.cell? ⟨w.heap.size, 96, none⟩ = some (.int .i64 m2.ga) := MM.out.A.cga K2.out
    have c99 : W2.cell? ⟨w.heap.size, 99, none⟩ = some (.int .i64 m2.er) := MM.out.A.cer K2.out
    have c100 : W2.cell? ⟨w.heap.size, 100, none⟩ = some (.int .i64 m2.se) := MM.out.A.cse K2.out
    have KN := hid (fun W => show Calls Tryz.prog 144 #[.int .i64 m2.se, .int .i64 (eraZ m2), .int .i64 40] W (NzA W m2.se (eraZ m2) 40) from cnoise_any m2.se (eraZ m2) 40 W (by omega))
    have KM := hid (fun W A c (hr : Rs W W.heap.size A (nzL m2.se (eraZ m2) 40)) => show Calls Tryz.prog 106 #[.agg (ints m2.e).toArray, .int .i64 m2.la, .int .i64 (fade m2.pi m2.er), .slice A 40 c] W (fun e w' => ∃ A c, e = .returned (.tuple #[.slice A 40 c, .int .i64 0]) ∧ Own w' W.heap.size A c (eraX m2) ∧ Below W.heap.size W w') from by
      refine (mix_any m2.e _ m2.la (fade m2.pi m2.er) A c 40 W K2.out.e hr (nzL_len _ _ _) (by omega)).mono ?_
      rintro e w' ⟨A', c', h1, h2, h3⟩
      rw [(mx_good (h := m2.e) (x := nzL m2.se (eraZ m2) 40) (eraX_good HLA.out)).2] at h1
      have hl := eraX_len HLA.out
      unfold eraX at hl
      rw [hl] at h1
      exact ⟨A', c', h1, h2, h3⟩)
    have XL := hid (eraX_len HLA.out)
    have EN := hid (show eraN m2 = { m2 with se := nzE m2.se 40, e := keepL m2.e (eraX m2) } from rfl)
    have KF0 := fun W => fade_any m2.ga m2.er W
    have KG0 := fun W => fade_any m2.pi m2.er W
    have fb := fade_range m2.ga m2.er
    have hwz : IntKind.i64.wrap (eraZ m2) = eraZ m2 := by unfold eraZ; rw [IntKind.wrap_i64]; omega
    have hq : (fade m2.ga m2.er).tdiv 4 = eraZ m2 := by unfold eraZ; exact Int.tdiv_eq_ediv_of_nonneg fb.1
    generalize eraX m2 = x at *
    generalize eraZ m2 = z at *
    generalize fade m2.ga m2.er = f at *
    generalize fade m2.pi m2.er = f2 at *
    have KF := hid KF0
    have KG := hid KG0
    clear KF0 KG0 fb
    refine wp_region_noPanic ?_
    refine wp_region_held_drew (S := fun w' => w'.cell? ⟨w.heap.size, 96, none⟩ = some (.int .i64 m2.ga) ∧ w'.cell? ⟨w.heap.size, 99, none⟩ = some (.int .i64 m2.er)) (by kernel_rfl) ⟨c96, c99⟩ (fun hHeld => ?_)
    refine wpAnyH_take (i := 0) (v := ?_) rfl (by kernel_rfl) (by kernel_rfl) (by kernel_rfl) (fun _ _ _ h => h) (Or.inl ⟨by rfl, ?_⟩) hHeld ?_
    rotate_left
    · intro w hSw; obtain ⟨hS1, hS2⟩ := hSw; go_simp
      try with_reducible rfl
    try simp only [List.getElem_toArray, List.getElem_cons_zero, List.getElem_cons_succ, Act.put, List.setIfInBounds_toArray, List.set_cons_zero, List.set_cons_succ]
    refine wpAnyH_take (i := 2) (v := ?_) rfl (by kernel_rfl) (by kernel_rfl) (by kernel_rfl) (fun _ _ _ h => h) (Or.inl ⟨by rfl, ?_⟩) hHeld ?_
    rotate_left
    · intro w hSw; obtain ⟨hS1, hS2⟩ := hSw; go_simp
      try with_reducible rfl
    try simp only [List.getElem_toArray, List.getElem_cons_zero, List.getElem_cons_succ, Act.put, List.setIfInBounds_toArray, List.set_cons_zero, List.set_cons_succ]
    refine wpAnyH_take (i := 3) (v := ?_) rfl (by kernel_rfl) (by kernel_rfl) (by kernel_rfl) (fun _ _ _ h => h) (Or.inl ⟨by rfl, ?_⟩) hHeld ?_
    rotate_left
    · intro w hSw; obtain ⟨hS1, hS2⟩ := hSw; go_simp
      try with_reducible rfl
    try simp only [List.getElem_toArray, List.getElem_cons_zero, List.getElem_cons_succ, Act.put, List.setIfInBounds_toArray, List.set_cons_zero, List.set_cons_succ]
    refine wpAnyH_take (i := 4) (v := ?_) rfl (by kernel_rfl) (by kernel_rfl) (by kernel_rfl) (fun _ _ _ h => h) (Or.inl ⟨by rfl, ?_⟩) hHeld ?_
    rotate_left
    · intro w hSw; obtain ⟨hS1, hS2⟩ := hSw; go_simp
      try with_reducible rfl
    try simp only [List.getElem_toArray, List.getElem_cons_zero, List.getElem_cons_succ, Act.put, List.setIfInBounds_toArray, List.set_cons_zero, List.set_cons_succ]
    refine wpAnyH_take (i := 5) (v := ?_) rfl (by kernel_rfl) (by kernel_rfl) (by kernel_rfl) (fun _ _ _ h => h) (Or.inl ⟨by rfl, ?_⟩) hHeld ?_
    rotate_left
    · intro w hSw; obtain ⟨hS1, hS2⟩ := hSw; go_simp
      try with_reducible rfl
    try simp only [List.getElem_toArray, List.getElem_cons_zero, List.getElem_cons_succ, Act.put, List.setIfInBounds_toArray, List.set_cons_zero, List.set_cons_succ]
    refine wpAnyH_ready (rs := [1, 6]) (by kernel_rfl) (by simp) ?_
    refine AllReadyH.cons rfl (fun K hK => ?_) (AllReadyH.cons rfl (fun K hK => ?_) AllReadyH.nil)
    · clear hHeld
      go_simp
      refine hK.out _ _ ⟨c96, c99⟩ (fun hHeld => ?_)
      clear hK K
      try simp only [List.getElem_toArray, List.getElem_cons_zero, List.getElem_cons_succ, Act.put, List.setIfInBounds_toArray, List.set_cons_zero, List.set_cons_succ]
      refine wpAnyH_ready (rs := [6]) (by kernel_rfl) (by simp) ?_
      refine AllReadyH.cons rfl (fun K hK => ?_) AllReadyH.nil
      clear hHeld
      go_simp
      go_at_call 184
      (with_reducible refine (KF.out _).mono ?_)
      rintro e' w' ⟨rfl, rfl⟩
      refine hK.out _ _ ⟨c96, c99⟩ (fun hHeld => ?_)
      clear hK K
      try simp only [List.getElem_toArray, List.getElem_cons_zero, List.getElem_cons_succ, Act.put, List.setIfInBounds_toArray, List.set_cons_zero, List.set_cons_succ]
      refine wpAnyH_take (i := 7) (v := ?_) rfl (by kernel_rfl) (by kernel_rfl) (by kernel_rfl) (fun _ _ _ h => h) (Or.inl ⟨by rfl, ?_⟩) hHeld ?_
      rotate_left
      · intro w hSw; obtain ⟨hS1, hS2⟩ := hSw; go_simp
        try with_reducible rfl
      try simp only [List.getElem_toArray, List.getElem_cons_zero, List.getElem_cons_succ, Act.put, List.setIfInBounds_toArray, List.set_cons_zero, List.set_cons_succ]
      refine wpAnyH_ready (rs := [8]) (by kernel_rfl) (by simp) ?_
      refine AllReadyH.cons rfl (fun K hK => ?_) AllReadyH.nil
      clear hHeld
      go_simp
      go_at_call 144
      (with_reducible refine (KN.out W2.drew).mono ?_)
      rintro e' w3 ⟨A3, c3, rfl, hO, hB⟩; have M3 : Ms w w3 m2 := MM.out.drew.below hB; have d96 : w3.cell? ⟨w.heap.size, 96, none⟩ = some (.int .i64 m2.ga) := M3.A.cga K2.out; have d99 : w3.cell? ⟨w.heap.size, 99, none⟩ = some (.int .i64 m2.er) := M3.A.cer K2.out; have d100 : w3.cell? ⟨w.heap.size, 100, none⟩ = some (.int .i64 m2.se) := M3.A.cse K2.out; have g100 : w3.frozen? ⟨w.heap.size, 100, none⟩ = false := MB.frozen M3.A 100; have M4 : Ms w (w3.setCell ⟨w.heap.size, 100, none⟩ (.int .i64 (nzE m2.se 40))) { m2 with se := nzE m2.se 40 } := M3.se K2.out (nzE m2.se 40); have h96 : (w3.setCell ⟨w.heap.size, 100, none⟩ (.int .i64 (nzE m2.se 40))).cell? ⟨w.heap.size, 96, none⟩ = some (.int .i64 m2.ga) := M4.A.cga (K2.out.se _); have h99 : (w3.setCell ⟨w.heap.size, 100, none⟩ (.int .i64 (nzE m2.se 40))).cell? ⟨w.heap.size, 99, none⟩ = some (.int .i64 m2.er) := M4.A.cer (K2.out.se _); have M4 := hid M4; have LT3 := hid M3.lt; have O3 := hid hO; clear hO hB
      refine hK.out _ _ ⟨d96, d99⟩ (fun hHeld => ?_)
      clear hK K
      try simp only [List.getElem_toArray, List.getElem_cons_zero, List.getElem_cons_succ, Act.put, List.setIfInBounds_toArray, List.set_cons_zero, List.set_cons_succ]
      refine wpAnyH_take (i := 9) (v := ?_) rfl (by kernel_rfl) (by kernel_rfl) (by kernel_rfl) (fun _ _ _ h => h) (Or.inl ⟨by rfl, ?_⟩) hHeld ?_
      rotate_left
      · intro w hSw; obtain ⟨hS1, hS2⟩ := hSw; go_simp
        try with_reducible rfl
      try simp only [List.getElem_toArray, List.getElem_cons_zero, List.getElem_cons_succ, Act.put, List.setIfInBounds_toArray, List.set_cons_zero, List.set_cons_succ]
      refine wpAnyH_take (i := 10) (v := ?_) rfl (by kernel_rfl) (by kernel_rfl) (by kernel_rfl) (fun _ _ _ h => h) (Or.inl ⟨by rfl, ?_⟩) hHeld ?_
      rotate_left
      · intro w hSw; obtain ⟨hS1, hS2⟩ := hSw; go_simp
        try with_reducible rfl
      try simp only [List.getElem_toArray, List.getElem_cons_zero, List.getElem_cons_succ, Act.put, List.setIfInBounds_toArray, List.set_cons_zero, List.set_cons_succ]
      refine wpAnyH_take (i := 11) (v := ?_) rfl (by kernel_rfl) (by kernel_rfl) (by kernel_rfl) (fun _ _ _ h => h) (Or.inl ⟨by rfl, ?_⟩) hHeld ?_
      rotate_left
      · intro w hSw; obtain ⟨hS1, hS2⟩ := hSw; go_simp
        try with_reducible rfl
      try simp only [List.getElem_toArray, List.getElem_cons_zero, List.getElem_cons_succ, Act.put, List.setIfInBounds_toArray, List.set_cons_zero, List.set_cons_succ]
      refine wpAnyH_take (i := 12) (v := ?_) rfl (by kernel_rfl) (by kernel_rfl) (by kernel_rfl) (fun _ _ _ h => h) (Or.inl ⟨by rfl, ?_⟩) hHeld ?_
      rotate_left
      · intro w hSw; obtain ⟨hS1, hS2⟩ := hSw; go_simp
        try with_reducible rfl
      try simp only [List.getElem_toArray, List.getElem_cons_zero, List.getElem_cons_succ, Act.put, List.setIfInBounds_toArray, List.set_cons_zero, List.set_cons_succ]
      refine wpAnyH_ready (rs := [13]) (by kernel_rfl) (by simp) ?_
      refine AllReadyH.cons rfl (fun K hK => ?_) AllReadyH.nil
      clear hHeld
      go_simp
      refine hK.out _ _ ⟨h96, h99⟩ (fun hHeld => ?_)
      clear hK K
      try simp only [List.getElem_toArray, List.getElem_cons_zero, List.getElem_cons_succ, Act.put, List.setIfInBounds_toArray, List.set_cons_zero, List.set_cons_succ]
      refine wpAnyH_take (i := 14) (v := ?_) rfl (by kernel_rfl) (by kernel_rfl) (by kernel_rfl) (fun _ _ _ h => h) (Or.inl ⟨by rfl, ?_⟩) hHeld ?_
      rotate_left
      · intro w hSw; obtain ⟨hS1, hS2⟩ := hSw; go_simp
        try with_reducible rfl
      try simp only [List.getElem_toArray, List.getElem_cons_zero, List.getElem_cons_succ, Act.put, List.setIfInBounds_toArray, List.set_cons_zero, List.set_cons_succ]
      refine wpAnyH_done (by kernel_rfl) ?_ _
      clear hHeld
      refine NoPanic.normal ?_
      have O4 := hid (show Own (w3.setCell ⟨w.heap.size, 100, none⟩ (.int .i64 (nzE m2.se 40))) (w.heap.size + 2) A3 c3 (nzL m2.se z 40) from Own.setC (O3.out.more (base' := w.heap.size + 2) (by have := MM.out.lt; exact this)) (by omega) 100 _)
      obtain ⟨W4, hW4⟩ : ∃ W4, W4 = w3.setCell ⟨w.heap.size, 100, none⟩ (.int .i64 (nzE m2.se 40)) := ⟨_, rfl⟩
      clear c96 c99 c100 d96 d99 d100 h96 h99 g100 hq hwz MM KN KF
      rw [← hW4] at M4 O4 ⊢
      clear hW4 M3 O3
      have K3 := hid (K2.out.se (nzE m2.se 40))
      have rg4 : W4.rangeAt w.heap.size 16 (ints m2.e) := M4.out.A.E K3.out
      have c98 : W4.cell? ⟨w.heap.size, 98, none⟩ = some (.int .i64 m2.la) := M4.out.A.cla K3.out
      have c97 : W4.cell? ⟨w.heap.size, 97, none⟩ = some (.int .i64 m2.pi) := M4.out.A.cpi K3.out
      have c99 : W4.cell? ⟨w.heap.size, 99, none⟩ = some (.int .i64 m2.er) := M4.out.A.cer K3.out
      have hu80 := Tryz.underlying23
      have hi80 : (Tryz.prog.info? 23).map (·.size) = some (ints m2.e).length := by rw [ints_len, K2.out.e]; exact size80k
      have R4 := hid (show Rs W4.drew W4.drew.heap.size A3 (nzL m2.se z 40) from O4.out.reads)
      simp only [Exit.then]
      go_wp2_with fail
      go_region_held3 (fun w' => w'.rangeAt w.heap.size 16 (ints m2.e) ∧ w'.cell? ⟨w.heap.size, 98, none⟩ = some (.int .i64 m2.la) ∧ w'.cell? ⟨w.heap.size, 97, none⟩ = some (.int .i64 m2.pi) ∧ w'.cell? ⟨w.heap.size, 99, none⟩ = some (.int .i64 m2.er)) (first | exact ⟨by assumption, by assumption, by assumption, by assumption⟩ | go_keep) (first
        | (go_at_call 184; (with_reducible refine (KG.out _).mono ?_); rintro e' w' ⟨rfl, rfl⟩)
        | (go_at_call 106; (with_reducible refine (KM.out W4.drew A3 c3 R4.out).mono ?_); rintro e' w5 ⟨A5, c5, rfl, hO, hB⟩; have M5 : Ms w w5 { m2 with se := nzE m2.se 40 } := M4.out.drew.below hB; have rg5 : w5.rangeAt w.heap.size 16 (ints m2.e) := M5.A.E K3.out; have d98 : w5.cell? ⟨w.heap.size, 98, none⟩ = some (.int .i64 m2.la) := M5.A.cla K3.out; have d97 : w5.cell? ⟨w.heap.size, 97, none⟩ = some (.int .i64 m2.pi) := M5.A.cpi K3.out; have d99 : w5.cell? ⟨w.heap.size, 99, none⟩ = some (.int .i64 m2.er) := M5.A.cer K3.out; have M5 := hid M5; have O5 := hid (hO.more (base' := w.heap.size + 2) (by have := M4.out.lt; exact this)); clear hO hB))
      rename_i hHeldZ
      clear hHeldZ
      clear rg4 c98 c97 c99 rg5 d98 d97 d99 hu80 M4 O4 R4 KM KG
      have KL := hid (keepL_len K2.out.e XL.out)
      have KK := hid (fun W A c (h : Rs W W.heap.size A x) => show Calls Tryz.prog 107 #[.agg (ints m2.e).toArray, .slice A 40 c] W (Keeps W m2.e x 40) from keep_any m2.e _ A c 40 W K2.out.e h XL.out (by omega))
      have HI80 := hid hi80
      clear hi80
      simp only [Exit.then]
      go_wp2_with (refine wpList_load_mid rfl 23 (.tmp 61) rfl _ _ rfl (ints m2.e) _ (M5.out.A.E K3.out) Tryz.underlying23 rfl HI80.out ?_)
      refine (KK.out w5 A5 c5 O5.out.reads).mono ?_
      rintro e w6 ⟨rfl, hB⟩
      have M6 := hid (M5.out.below hB)
      have O6 := hid (O5.out.below hB)
      clear hB M5 O5 KK
      have hKE := hid (show keepA m2.e x 40 = keepL m2.e x from rfl)
      rw [hKE.out]
      have M7 := hid (M6.out.ex K3.out _ KL.out)
      have O7 := hid (Own.setCs (g := w.heap.size) (by omega) (ints (keepL m2.e x)) 16 _ O6.out)
      have SZ := hid (show (Tryz.prog.info? 23).map (·.size) = some (agi (keepL m2.e x)).size from by rw [agi_size, KL.out]; exact size80k)
      have TH := hid (show w6.there w.heap.size 16 (agi (keepL m2.e x)).size from by rw [agi_size, KL.out]; exact M6.out.A.thereE K3.out)
      have OKS := hid (show (eraN m2).ok by rw [EN.out]; exact (K3.out.ex KL.out))
      obtain ⟨w7, hw7⟩ : ∃ w7, w7 = w6.setCells w.heap.size 16 (ints (keepL m2.e x)) := ⟨_, rfl⟩
      rw [← hw7] at M7 O7
      have HW7 := hid hw7
      have T7 := hid (show Ms w w7 (eraN m2) by rw [EN.out]; exact M7.out)
      clear hw7 M7 EN
      have hRow := hid (MB.setRow T7.out.R (eraN m2))
      have FIN := hid (below_setRow T7.out.bel (g := w.heap.size + 1) (by omega) (eraN m2).ag)
      have OF := hid ((O7.out.setRow (g := w.heap.size + 1) (by omega) (eraN m2).ag).more (base' := w.heap.size) (by omega))
      go_wp2_with (first
        | (refine wpList_store_mid rfl 23 (.tmp 67) (.tmp 65) rfl w.heap.size 16 (agi (keepL m2.e x)) rfl rfl TH.out SZ.out (agi_one _) ?_; rw [show (agi (keepL m2.e x)).toList = ints (keepL m2.e x) from rfl, ← HW7.out])
        | (refine wpList_loadM rfl (.tmp 2) rfl _ (eraN m2) rfl T7.out.A OKS.out ?_)
        | (refine wpList_storeM rfl (.tmp 4) (.tmp 68) rfl _ zeroM (eraN m2) rfl rfl T7.out.R zeroM_ok OKS.out ?_))
      refine bodyPost_ret (v := _) (hR _ _ _ (eraN m2) rfl hRow.out OKS.out) rfl ?_
      rw [FR.out, FY.out, HE.out]
      exact ⟨A5, c5, by rw [XL.out]; rfl, OF.out, FIN.out⟩

    · clear hHeld
      go_simp
      go_at_call 184
      (with_reducible refine (KF.out _).mono ?_)
      rintro e' w' ⟨rfl, rfl⟩
      refine hK.out _ _ ⟨c96, c99⟩ (fun hHeld => ?_)
      clear hK K
      try simp only [List.getElem_toArray, List.getElem_cons_zero, List.getElem_cons_succ, Act.put, List.setIfInBounds_toArray, List.set_cons_zero, List.set_cons_succ]
      refine wpAnyH_take (i := 7) (v := ?_) rfl (by kernel_rfl) (by kernel_rfl) (by kernel_rfl) (fun _ _ _ h => h) (Or.inl ⟨by rfl, ?_⟩) hHeld ?_
      rotate_left
      · intro w hSw; obtain ⟨hS1, hS2⟩ := hSw; go_simp
        try with_reducible rfl
      try simp only [List.getElem_toArray, List.getElem_cons_zero, List.getElem_cons_succ, Act.put, List.setIfInBounds_toArray, List.set_cons_zero, List.set_cons_succ]
      refine wpAnyH_ready (rs := [1]) (by kernel_rfl) (by simp) ?_
      refine AllReadyH.cons rfl (fun K hK => ?_) AllReadyH.nil
      clear hHeld
      go_simp
      refine hK.out _ _ ⟨c96, c99⟩ (fun hHeld => ?_)
      clear hK K
      try simp only [List.getElem_toArray, List.getElem_cons_zero, List.getElem_cons_succ, Act.put, List.setIfInBounds_toArray, List.set_cons_zero, List.set_cons_succ]
      refine wpAnyH_ready (rs := [8]) (by kernel_rfl) (by simp) ?_
      refine AllReadyH.cons rfl (fun K hK => ?_) AllReadyH.nil
      clear hHeld
      go_simp
      go_at_call 144
      (with_reducible refine (KN.out W2.drew).mono ?_)
      rintro e' w3 ⟨A3, c3, rfl, hO, hB⟩; have M3 : Ms w w3 m2 := MM.out.drew.below hB; have d96 : w3.cell? ⟨w.heap.size, 96, none⟩ = some (.int .i64 m2.ga) := M3.A.cga K2.out; have d99 : w3.cell? ⟨w.heap.size, 99, none⟩ = some (.int .i64 m2.er) := M3.A.cer K2.out; have d100 : w3.cell? ⟨w.heap.size, 100, none⟩ = some (.int .i64 m2.se) := M3.A.cse K2.out; have g100 : w3.frozen? ⟨w.heap.size, 100, none⟩ = false := MB.frozen M3.A 100; have M4 : Ms w (w3.setCell ⟨w.heap.size, 100, none⟩ (.int .i64 (nzE m2.se 40))) { m2 with se := nzE m2.se 40 } := M3.se K2.out (nzE m2.se 40); have h96 : (w3.setCell ⟨w.heap.size, 100, none⟩ (.int .i64 (nzE m2.se 40))).cell? ⟨w.heap.size, 96, none⟩ = some (.int .i64 m2.ga) := M4.A.cga (K2.out.se _); have h99 : (w3.setCell ⟨w.heap.size, 100, none⟩ (.int .i64 (nzE m2.se 40))).cell? ⟨w.heap.size, 99, none⟩ = some (.int .i64 m2.er) := M4.A.cer (K2.out.se _); have M4 := hid M4; have LT3 := hid M3.lt; have O3 := hid hO; clear hO hB
      refine hK.out _ _ ⟨d96, d99⟩ (fun hHeld => ?_)
      clear hK K
      try simp only [List.getElem_toArray, List.getElem_cons_zero, List.getElem_cons_succ, Act.put, List.setIfInBounds_toArray, List.set_cons_zero, List.set_cons_succ]
      refine wpAnyH_take (i := 9) (v := ?_) rfl (by kernel_rfl) (by kernel_rfl) (by kernel_rfl) (fun _ _ _ h => h) (Or.inl ⟨by rfl, ?_⟩) hHeld ?_
      rotate_left
      · intro w hSw; obtain ⟨hS1, hS2⟩ := hSw; go_simp
        try with_reducible rfl
      try simp only [List.getElem_toArray, List.getElem_cons_zero, List.getElem_cons_succ, Act.put, List.setIfInBounds_toArray, List.set_cons_zero, List.set_cons_succ]
      refine wpAnyH_take (i := 10) (v := ?_) rfl (by kernel_rfl) (by kernel_rfl) (by kernel_rfl) (fun _ _ _ h => h) (Or.inl ⟨by rfl, ?_⟩) hHeld ?_
      rotate_left
      · intro w hSw; obtain ⟨hS1, hS2⟩ := hSw; go_simp
        try with_reducible rfl
      try simp only [List.getElem_toArray, List.getElem_cons_zero, List.getElem_cons_succ, Act.put, List.setIfInBounds_toArray, List.set_cons_zero, List.set_cons_succ]
      refine wpAnyH_take (i := 11) (v := ?_) rfl (by kernel_rfl) (by kernel_rfl) (by kernel_rfl) (fun _ _ _ h => h) (Or.inl ⟨by rfl, ?_⟩) hHeld ?_
      rotate_left
      · intro w hSw; obtain ⟨hS1, hS2⟩ := hSw; go_simp
        try with_reducible rfl
      try simp only [List.getElem_toArray, List.getElem_cons_zero, List.getElem_cons_succ, Act.put, List.setIfInBounds_toArray, List.set_cons_zero, List.set_cons_succ]
      refine wpAnyH_take (i := 12) (v := ?_) rfl (by kernel_rfl) (by kernel_rfl) (by kernel_rfl) (fun _ _ _ h => h) (Or.inl ⟨by rfl, ?_⟩) hHeld ?_
      rotate_left
      · intro w hSw; obtain ⟨hS1, hS2⟩ := hSw; go_simp
        try with_reducible rfl
      try simp only [List.getElem_toArray, List.getElem_cons_zero, List.getElem_cons_succ, Act.put, List.setIfInBounds_toArray, List.set_cons_zero, List.set_cons_succ]
      refine wpAnyH_ready (rs := [13]) (by kernel_rfl) (by simp) ?_
      refine AllReadyH.cons rfl (fun K hK => ?_) AllReadyH.nil
      clear hHeld
      go_simp
      refine hK.out _ _ ⟨h96, h99⟩ (fun hHeld => ?_)
      clear hK K
      try simp only [List.getElem_toArray, List.getElem_cons_zero, List.getElem_cons_succ, Act.put, List.setIfInBounds_toArray, List.set_cons_zero, List.set_cons_succ]
      refine wpAnyH_take (i := 14) (v := ?_) rfl (by kernel_rfl) (by kernel_rfl) (by kernel_rfl) (fun _ _ _ h => h) (Or.inl ⟨by rfl, ?_⟩) hHeld ?_
      rotate_left
      · intro w hSw; obtain ⟨hS1, hS2⟩ := hSw; go_simp
        try with_reducible rfl
      try simp only [List.getElem_toArray, List.getElem_cons_zero, List.getElem_cons_succ, Act.put, List.setIfInBounds_toArray, List.set_cons_zero, List.set_cons_succ]
      refine wpAnyH_done (by kernel_rfl) ?_ _
      clear hHeld
      refine NoPanic.normal ?_
      have O4 := hid (show Own (w3.setCell ⟨w.heap.size, 100, none⟩ (.int .i64 (nzE m2.se 40))) (w.heap.size + 2) A3 c3 (nzL m2.se z 40) from Own.setC (O3.out.more (base' := w.heap.size + 2) (by have := MM.out.lt; exact this)) (by omega) 100 _)
      obtain ⟨W4, hW4⟩ : ∃ W4, W4 = w3.setCell ⟨w.heap.size, 100, none⟩ (.int .i64 (nzE m2.se 40)) := ⟨_, rfl⟩
      clear c96 c99 c100 d96 d99 d100 h96 h99 g100 hq hwz MM KN KF
      rw [← hW4] at M4 O4 ⊢
      clear hW4 M3 O3
      have K3 := hid (K2.out.se (nzE m2.se 40))
      have rg4 : W4.rangeAt w.heap.size 16 (ints m2.e) := M4.out.A.E K3.out
      have c98 : W4.cell? ⟨w.heap.size, 98, none⟩ = some (.int .i64 m2.la) := M4.out.A.cla K3.out
      have c97 : W4.cell? ⟨w.heap.size, 97, none⟩ = some (.int .i64 m2.pi) := M4.out.A.cpi K3.out
      have c99 : W4.cell? ⟨w.heap.size, 99, none⟩ = some (.int .i64 m2.er) := M4.out.A.cer K3.out
      have hu80 := Tryz.underlying23
      have hi80 : (Tryz.prog.info? 23).map (·.size) = some (ints m2.e).length := by rw [ints_len, K2.out.e]; exact size80k
      have R4 := hid (show Rs W4.drew W4.drew.heap.size A3 (nzL m2.se z 40) from O4.out.reads)
      simp only [Exit.then]
      go_wp2_with fail
      go_region_held3 (fun w' => w'.rangeAt w.heap.size 16 (ints m2.e) ∧ w'.cell? ⟨w.heap.size, 98, none⟩ = some (.int .i64 m2.la) ∧ w'.cell? ⟨w.heap.size, 97, none⟩ = some (.int .i64 m2.pi) ∧ w'.cell? ⟨w.heap.size, 99, none⟩ = some (.int .i64 m2.er)) (first | exact ⟨by assumption, by assumption, by assumption, by assumption⟩ | go_keep) (first
        | (go_at_call 184; (with_reducible refine (KG.out _).mono ?_); rintro e' w' ⟨rfl, rfl⟩)
        | (go_at_call 106; (with_reducible refine (KM.out W4.drew A3 c3 R4.out).mono ?_); rintro e' w5 ⟨A5, c5, rfl, hO, hB⟩; have M5 : Ms w w5 { m2 with se := nzE m2.se 40 } := M4.out.drew.below hB; have rg5 : w5.rangeAt w.heap.size 16 (ints m2.e) := M5.A.E K3.out; have d98 : w5.cell? ⟨w.heap.size, 98, none⟩ = some (.int .i64 m2.la) := M5.A.cla K3.out; have d97 : w5.cell? ⟨w.heap.size, 97, none⟩ = some (.int .i64 m2.pi) := M5.A.cpi K3.out; have d99 : w5.cell? ⟨w.heap.size, 99, none⟩ = some (.int .i64 m2.er) := M5.A.cer K3.out; have M5 := hid M5; have O5 := hid (hO.more (base' := w.heap.size + 2) (by have := M4.out.lt; exact this)); clear hO hB))
      rename_i hHeldZ
      clear hHeldZ
      clear rg4 c98 c97 c99 rg5 d98 d97 d99 hu80 M4 O4 R4 KM KG
      have KL := hid (keepL_len K2.out.e XL.out)
      have KK := hid (fun W A c (h : Rs W W.heap.size A x) => show Calls Tryz.prog 107 #[.agg (ints m2.e).toArray, .slice A 40 c] W (Keeps W m2.e x 40) from keep_any m2.e _ A c 40 W K2.out.e h XL.out (by omega))
      have HI80 := hid hi80
      clear hi80
      simp only [Exit.then]
      go_wp2_with (refine wpList_load_mid rfl 23 (.tmp 61) rfl _ _ rfl (ints m2.e) _ (M5.out.A.E K3.out) Tryz.underlying23 rfl HI80.out ?_)
      refine (KK.out w5 A5 c5 O5.out.reads).mono ?_
      rintro e w6 ⟨rfl, hB⟩
      have M6 := hid (M5.out.below hB)
      have O6 := hid (O5.out.below hB)
      clear hB M5 O5 KK
      have hKE := hid (show keepA m2.e x 40 = keepL m2.e x from rfl)
      rw [hKE.out]
      have M7 := hid (M6.out.ex K3.out _ KL.out)
      have O7 := hid (Own.setCs (g := w.heap.size) (by omega) (ints (keepL m2.e x)) 16 _ O6.out)
      have SZ := hid (show (Tryz.prog.info? 23).map (·.size) = some (agi (keepL m2.e x)).size from by rw [agi_size, KL.out]; exact size80k)
      have TH := hid (show w6.there w.heap.size 16 (agi (keepL m2.e x)).size from by rw [agi_size, KL.out]; exact M6.out.A.thereE K3.out)
      have OKS := hid (show (eraN m2).ok by rw [EN.out]; exact (K3.out.ex KL.out))
      obtain ⟨w7, hw7⟩ : ∃ w7, w7 = w6.setCells w.heap.size 16 (ints (keepL m2.e x)) := ⟨_, rfl⟩
      rw [← hw7] at M7 O7
      have HW7 := hid hw7
      have T7 := hid (show Ms w w7 (eraN m2) by rw [EN.out]; exact M7.out)
      clear hw7 M7 EN
      have hRow := hid (MB.setRow T7.out.R (eraN m2))
      have FIN := hid (below_setRow T7.out.bel (g := w.heap.size + 1) (by omega) (eraN m2).ag)
      have OF := hid ((O7.out.setRow (g := w.heap.size + 1) (by omega) (eraN m2).ag).more (base' := w.heap.size) (by omega))
      go_wp2_with (first
        | (refine wpList_store_mid rfl 23 (.tmp 67) (.tmp 65) rfl w.heap.size 16 (agi (keepL m2.e x)) rfl rfl TH.out SZ.out (agi_one _) ?_; rw [show (agi (keepL m2.e x)).toList = ints (keepL m2.e x) from rfl, ← HW7.out])
        | (refine wpList_loadM rfl (.tmp 2) rfl _ (eraN m2) rfl T7.out.A OKS.out ?_)
        | (refine wpList_storeM rfl (.tmp 4) (.tmp 68) rfl _ zeroM (eraN m2) rfl rfl T7.out.R zeroM_ok OKS.out ?_))
      refine bodyPost_ret (v := _) (hR _ _ _ (eraN m2) rfl hRow.out OKS.out) rfl ?_
      rw [FR.out, FY.out, HE.out]
      exact ⟨A5, c5, by rw [XL.out]; rfl, OF.out, FIN.out⟩
  · have MM := hid (show Ms w w1 m2 by
      rw [hm2]
      unfold eraP er1
      rw [if_neg (by omega)]
      exact S1.out)
    clear hm2 h1 h2 a5 f5
    go_wp2_with fail
    obtain ⟨W2, hW2⟩ : ∃ W2, W2 = w1 := ⟨_, rfl⟩
    rw [← hW2] at MM ⊢
    clear hW2 
    have c96 : W2.cell? ⟨w.heap.size, 96, none⟩ = some (.int .i64 m2.ga) := MM.out.A.cga K2.out
    have c99 : W2.cell? ⟨w.heap.size, 99, none⟩ = some (.int .i64 m2.er) := MM.out.A.cer K2.out
    have c100 : W2.cell? ⟨w.heap.size, 100, none⟩ = some (.int .i64 m2.se) := MM.out.A.cse K2.out
    have KN := hid (fun W => show Calls Tryz.prog 144 #[.int .i64 m2.se, .int .i64 (eraZ m2), .int .i64 40] W (NzA W m2.se (eraZ m2) 40) from cnoise_any m2.se (eraZ m2) 40 W (by omega))
    have KM := hid (fun W A c (hr : Rs W W.heap.size A (nzL m2.se (eraZ m2) 40)) => show Calls Tryz.prog 106 #[.agg (ints m2.e).toArray, .int .i64 m2.la, .int .i64 (fade m2.pi m2.er), .slice A 40 c] W (fun e w' => ∃ A c, e = .returned (.tuple #[.slice A 40 c, .int .i64 0]) ∧ Own w' W.heap.size A c (eraX m2) ∧ Below W.heap.size W w') from by
      refine (mix_any m2.e _ m2.la (fade m2.pi m2.er) A c 40 W K2.out.e hr (nzL_len _ _ _) (by omega)).mono ?_
      rintro e w' ⟨A', c', h1, h2, h3⟩
      rw [(mx_good (h := m2.e) (x := nzL m2.se (eraZ m2) 40) (eraX_good HLA.out)).2] at h1
      have hl := eraX_len HLA.out
      unfold eraX at hl
      rw [hl] at h1
      exact ⟨A', c', h1, h2, h3⟩)
    have XL := hid (eraX_len HLA.out)
    have EN := hid (show eraN m2 = { m2 with se := nzE m2.se 40, e := keepL m2.e (eraX m2) } from rfl)
    have KF0 := fun W => fade_any m2.ga m2.er W
    have KG0 := fun W => fade_any m2.pi m2.er W
    have fb := fade_range m2.ga m2.er
    have hwz : IntKind.i64.wrap (eraZ m2) = eraZ m2 := by unfold eraZ; rw [IntKind.wrap_i64]; omega
    have hq : (fade m2.ga m2.er).tdiv 4 = eraZ m2 := by unfold eraZ; exact Int.tdiv_eq_ediv_of_nonneg fb.1
    generalize eraX m2 = x at *
    generalize eraZ m2 = z at *
    generalize fade m2.ga m2.er = f at *
    generalize fade m2.pi m2.er = f2 at *
    have KF := hid KF0
    have KG := hid KG0
    clear KF0 KG0 fb
    refine wp_region_noPanic ?_
    refine wp_region_held_drew (S := fun w' => w'.cell? ⟨w.heap.size, 96, none⟩ = some (.int .i64 m2.ga) ∧ w'.cell? ⟨w.heap.size, 99, none⟩ = some (.int .i64 m2.er)) (by kernel_rfl) ⟨c96, c99⟩ (fun hHeld => ?_)
    refine wpAnyH_take (i := 0) (v := ?_) rfl (by kernel_rfl) (by kernel_rfl) (by kernel_rfl) (fun _ _ _ h => h) (Or.inl ⟨by rfl, ?_⟩) hHeld ?_
    rotate_left
    · intro w hSw; obtain ⟨hS1, hS2⟩ := hSw; go_simp
      try with_reducible rfl
    try simp only [List.getElem_toArray, List.getElem_cons_zero, List.getElem_cons_succ, Act.put, List.setIfInBounds_toArray, List.set_cons_zero, List.set_cons_succ]
    refine wpAnyH_take (i := 2) (v := ?_) rfl (by kernel_rfl) (by kernel_rfl) (by kernel_rfl) (fun _ _ _ h => h) (Or.inl ⟨by rfl, ?_⟩) hHeld ?_
    rotate_left
    · intro w hSw; obtain ⟨hS1, hS2⟩ := hSw; go_simp
      try with_reducible rfl
    try simp only [List.getElem_toArray, List.getElem_cons_zero, List.getElem_cons_succ, Act.put, List.setIfInBounds_toArray, List.set_cons_zero, List.set_cons_succ]
    refine wpAnyH_take (i := 3) (v := ?_) rfl (by kernel_rfl) (by kernel_rfl) (by kernel_rfl) (fun _ _ _ h => h) (Or.inl ⟨by rfl, ?_⟩) hHeld ?_
    rotate_left
    · intro w hSw; obtain ⟨hS1, hS2⟩ := hSw; go_simp
      try with_reducible rfl
    try simp only [List.getElem_toArray, List.getElem_cons_zero, List.getElem_cons_succ, Act.put, List.setIfInBounds_toArray, List.set_cons_zero, List.set_cons_succ]
    refine wpAnyH_take (i := 4) (v := ?_) rfl (by kernel_rfl) (by kernel_rfl) (by kernel_rfl) (fun _ _ _ h => h) (Or.inl ⟨by rfl, ?_⟩) hHeld ?_
    rotate_left
    · intro w hSw; obtain ⟨hS1, hS2⟩ := hSw; go_simp
      try with_reducible rfl
    try simp only [List.getElem_toArray, List.getElem_cons_zero, List.getElem_cons_succ, Act.put, List.setIfInBounds_toArray, List.set_cons_zero, List.set_cons_succ]
    refine wpAnyH_take (i := 5) (v := ?_) rfl (by kernel_rfl) (by kernel_rfl) (by kernel_rfl) (fun _ _ _ h => h) (Or.inl ⟨by rfl, ?_⟩) hHeld ?_
    rotate_left
    · intro w hSw; obtain ⟨hS1, hS2⟩ := hSw; go_simp
      try with_reducible rfl
    try simp only [List.getElem_toArray, List.getElem_cons_zero, List.getElem_cons_succ, Act.put, List.setIfInBounds_toArray, List.set_cons_zero, List.set_cons_succ]
    refine wpAnyH_ready (rs := [1, 6]) (by kernel_rfl) (by simp) ?_
    refine AllReadyH.cons rfl (fun K hK => ?_) (AllReadyH.cons rfl (fun K hK => ?_) AllReadyH.nil)
    · clear hHeld
      go_simp
      refine hK.out _ _ ⟨c96, c99⟩ (fun hHeld => ?_)
      clear hK K
      try simp only [List.getElem_toArray, List.getElem_cons_zero, List.getElem_cons_succ, Act.put, List.setIfInBounds_toArray, List.set_cons_zero, List.set_cons_succ]
      refine wpAnyH_ready (rs := [6]) (by kernel_rfl) (by simp) ?_
      refine AllReadyH.cons rfl (fun K hK => ?_) AllReadyH.nil
      clear hHeld
      go_simp
      go_at_call 184
      (with_reducible refine (KF.out _).mono ?_)
      rintro e' w' ⟨rfl, rfl⟩
      refine hK.out _ _ ⟨c96, c99⟩ (fun hHeld => ?_)
      clear hK K
      try simp only [List.getElem_toArray, List.getElem_cons_zero, List.getElem_cons_succ, Act.put, List.setIfInBounds_toArray, List.set_cons_zero, List.set_cons_succ]
      refine wpAnyH_take (i := 7) (v := ?_) rfl (by kernel_rfl) (by kernel_rfl) (by kernel_rfl) (fun _ _ _ h => h) (Or.inl ⟨by rfl, ?_⟩) hHeld ?_
      rotate_left
      · intro w hSw; obtain ⟨hS1, hS2⟩ := hSw; go_simp
        try with_reducible rfl
      try simp only [List.getElem_toArray, List.getElem_cons_zero, List.getElem_cons_succ, Act.put, List.setIfInBounds_toArray, List.set_cons_zero, List.set_cons_succ]
      refine wpAnyH_ready (rs := [8]) (by kernel_rfl) (by simp) ?_
      refine AllReadyH.cons rfl (fun K hK => ?_) AllReadyH.nil
      clear hHeld
      go_simp
      go_at_call 144
      (with_reducible refine (KN.out W2.drew).mono ?_)
      rintro e' w3 ⟨A3, c3, rfl, hO, hB⟩; have M3 : Ms w w3 m2 := MM.out.drew.below hB; have d96 : w3.cell? ⟨w.heap.size, 96, none⟩ = some (.int .i64 m2.ga) := M3.A.cga K2.out; have d99 : w3.cell? ⟨w.heap.size, 99, none⟩ = some (.int .i64 m2.er) := M3.A.cer K2.out; have d100 : w3.cell? ⟨w.heap.size, 100, none⟩ = some (.int .i64 m2.se) := M3.A.cse K2.out; have g100 : w3.frozen? ⟨w.heap.size, 100, none⟩ = false := MB.frozen M3.A 100; have M4 : Ms w (w3.setCell ⟨w.heap.size, 100, none⟩ (.int .i64 (nzE m2.se 40))) { m2 with se := nzE m2.se 40 } := M3.se K2.out (nzE m2.se 40); have h96 : (w3.setCell ⟨w.heap.size, 100, none⟩ (.int .i64 (nzE m2.se 40))).cell? ⟨w.heap.size, 96, none⟩ = some (.int .i64 m2.ga) := M4.A.cga (K2.out.se _); have h99 : (w3.setCell ⟨w.heap.size, 100, none⟩ (.int .i64 (nzE m2.se 40))).cell? ⟨w.heap.size, 99, none⟩ = some (.int .i64 m2.er) := M4.A.cer (K2.out.se _); have M4 := hid M4; have LT3 := hid M3.lt; have O3 := hid hO; clear hO hB
      refine hK.out _ _ ⟨d96, d99⟩ (fun hHeld => ?_)
      clear hK K
      try simp only [List.getElem_toArray, List.getElem_cons_zero, List.getElem_cons_succ, Act.put, List.setIfInBounds_toArray, List.set_cons_zero, List.set_cons_succ]
      refine wpAnyH_take (i := 9) (v := ?_) rfl (by kernel_rfl) (by kernel_rfl) (by kernel_rfl) (fun _ _ _ h => h) (Or.inl ⟨by rfl, ?_⟩) hHeld ?_
      rotate_left
      · intro w hSw; obtain ⟨hS1, hS2⟩ := hSw; go_simp
        try with_reducible rfl
      try simp only [List.getElem_toArray, List.getElem_cons_zero, List.getElem_cons_succ, Act.put, List.setIfInBounds_toArray, List.set_cons_zero, List.set_cons_succ]
      refine wpAnyH_take (i := 10) (v := ?_) rfl (by kernel_rfl) (by kernel_rfl) (by kernel_rfl) (fun _ _ _ h => h) (Or.inl ⟨by rfl, ?_⟩) hHeld ?_
      rotate_left
      · intro w hSw; obtain ⟨hS1, hS2⟩ := hSw; go_simp
        try with_reducible rfl
      try simp only [List.getElem_toArray, List.getElem_cons_zero, List.getElem_cons_succ, Act.put, List.setIfInBounds_toArray, List.set_cons_zero, List.set_cons_succ]
      refine wpAnyH_take (i := 11) (v := ?_) rfl (by kernel_rfl) (by kernel_rfl) (by kernel_rfl) (fun _ _ _ h => h) (Or.inl ⟨by rfl, ?_⟩) hHeld ?_
      rotate_left
      · intro w hSw; obtain ⟨hS1, hS2⟩ := hSw; go_simp
        try with_reducible rfl
      try simp only [List.getElem_toArray, List.getElem_cons_zero, List.getElem_cons_succ, Act.put, List.setIfInBounds_toArray, List.set_cons_zero, List.set_cons_succ]
      refine wpAnyH_take (i := 12) (v := ?_) rfl (by kernel_rfl) (by kernel_rfl) (by kernel_rfl) (fun _ _ _ h => h) (Or.inl ⟨by rfl, ?_⟩) hHeld ?_
      rotate_left
      · intro w hSw; obtain ⟨hS1, hS2⟩ := hSw; go_simp
        try with_reducible rfl
      try simp only [List.getElem_toArray, List.getElem_cons_zero, List.getElem_cons_succ, Act.put, List.setIfInBounds_toArray, List.set_cons_zero, List.set_cons_succ]
      refine wpAnyH_ready (rs := [13]) (by kernel_rfl) (by simp) ?_
      refine AllReadyH.cons rfl (fun K hK => ?_) AllReadyH.nil
      clear hHeld
      go_simp
      refine hK.out _ _ ⟨h96, h99⟩ (fun hHeld => ?_)
      clear hK K
      try simp only [List.getElem_toArray, List.getElem_cons_zero, List.getElem_cons_succ, Act.put, List.setIfInBounds_toArray, List.set_cons_zero, List.set_cons_succ]
      refine wpAnyH_take (i := 14) (v := ?_) rfl (by kernel_rfl) (by kernel_rfl) (by kernel_rfl) (fun _ _ _ h => h) (Or.inl ⟨by rfl, ?_⟩) hHeld ?_
      rotate_left
      · intro w hSw; obtain ⟨hS1, hS2⟩ := hSw; go_simp
        try with_reducible rfl
      try simp only [List.getElem_toArray, List.getElem_cons_zero, List.getElem_cons_succ, Act.put, List.setIfInBounds_toArray, List.set_cons_zero, List.set_cons_succ]
      refine wpAnyH_done (by kernel_rfl) ?_ _
      clear hHeld
      refine NoPanic.normal ?_
      have O4 := hid (show Own (w3.setCell ⟨w.heap.size, 100, none⟩ (.int .i64 (nzE m2.se 40))) (w.heap.size + 2) A3 c3 (nzL m2.se z 40) from Own.setC (O3.out.more (base' := w.heap.size + 2) (by have := MM.out.lt; exact this)) (by omega) 100 _)
      obtain ⟨W4, hW4⟩ : ∃ W4, W4 = w3.setCell ⟨w.heap.size, 100, none⟩ (.int .i64 (nzE m2.se 40)) := ⟨_, rfl⟩
      clear c96 c99 c100 d96 d99 d100 h96 h99 g100 hq hwz MM KN KF
      rw [← hW4] at M4 O4 ⊢
      clear hW4 M3 O3
      have K3 := hid (K2.out.se (nzE m2.se 40))
      have rg4 : W4.rangeAt w.heap.size 16 (ints m2.e) := M4.out.A.E K3.out
      have c98 : W4.cell? ⟨w.heap.size, 98, none⟩ = some (.int .i64 m2.la) := M4.out.A.cla K3.out
      have c97 : W4.cell? ⟨w.heap.size, 97, none⟩ = some (.int .i64 m2.pi) := M4.out.A.cpi K3.out
      have c99 : W4.cell? ⟨w.heap.size, 99, none⟩ = some (.int .i64 m2.er) := M4.out.A.cer K3.out
      have hu80 := Tryz.underlying23
      have hi80 : (Tryz.prog.info? 23).map (·.size) = some (ints m2.e).length := by rw [ints_len, K2.out.e]; exact size80k
      have R4 := hid (show Rs W4.drew W4.drew.heap.size A3 (nzL m2.se z 40) from O4.out.reads)
      simp only [Exit.then]
      go_wp2_with fail
      go_region_held3 (fun w' => w'.rangeAt w.heap.size 16 (ints m2.e) ∧ w'.cell? ⟨w.heap.size, 98, none⟩ = some (.int .i64 m2.la) ∧ w'.cell? ⟨w.heap.size, 97, none⟩ = some (.int .i64 m2.pi) ∧ w'.cell? ⟨w.heap.size, 99, none⟩ = some (.int .i64 m2.er)) (first | exact ⟨by assumption, by assumption, by assumption, by assumption⟩ | go_keep) (first
        | (go_at_call 184; (with_reducible refine (KG.out _).mono ?_); rintro e' w' ⟨rfl, rfl⟩)
        | (go_at_call 106; (with_reducible refine (KM.out W4.drew A3 c3 R4.out).mono ?_); rintro e' w5 ⟨A5, c5, rfl, hO, hB⟩; have M5 : Ms w w5 { m2 with se := nzE m2.se 40 } := M4.out.drew.below hB; have rg5 : w5.rangeAt w.heap.size 16 (ints m2.e) := M5.A.E K3.out; have d98 : w5.cell? ⟨w.heap.size, 98, none⟩ = some (.int .i64 m2.la) := M5.A.cla K3.out; have d97 : w5.cell? ⟨w.heap.size, 97, none⟩ = some (.int .i64 m2.pi) := M5.A.cpi K3.out; have d99 : w5.cell? ⟨w.heap.size, 99, none⟩ = some (.int .i64 m2.er) := M5.A.cer K3.out; have M5 := hid M5; have O5 := hid (hO.more (base' := w.heap.size + 2) (by have := M4.out.lt; exact this)); clear hO hB))
      rename_i hHeldZ
      clear hHeldZ
      clear rg4 c98 c97 c99 rg5 d98 d97 d99 hu80 M4 O4 R4 KM KG
      have KL := hid (keepL_len K2.out.e XL.out)
      have KK := hid (fun W A c (h : Rs W W.heap.size A x) => show Calls Tryz.prog 107 #[.agg (ints m2.e).toArray, .slice A 40 c] W (Keeps W m2.e x 40) from keep_any m2.e _ A c 40 W K2.out.e h XL.out (by omega))
      have HI80 := hid hi80
      clear hi80
      simp only [Exit.then]
      go_wp2_with (refine wpList_load_mid rfl 23 (.tmp 61) rfl _ _ rfl (ints m2.e) _ (M5.out.A.E K3.out) Tryz.underlying23 rfl HI80.out ?_)
      refine (KK.out w5 A5 c5 O5.out.reads).mono ?_
      rintro e w6 ⟨rfl, hB⟩
      have M6 := hid (M5.out.below hB)
      have O6 := hid (O5.out.below hB)
      clear hB M5 O5 KK
      have hKE := hid (show keepA m2.e x 40 = keepL m2.e x from rfl)
      rw [hKE.out]
      have M7 := hid (M6.out.ex K3.out _ KL.out)
      have O7 := hid (Own.setCs (g := w.heap.size) (by omega) (ints (keepL m2.e x)) 16 _ O6.out)
      have SZ := hid (show (Tryz.prog.info? 23).map (·.size) = some (agi (keepL m2.e x)).size from by rw [agi_size, KL.out]; exact size80k)
      have TH := hid (show w6.there w.heap.size 16 (agi (keepL m2.e x)).size from by rw [agi_size, KL.out]; exact M6.out.A.thereE K3.out)
      have OKS := hid (show (eraN m2).ok by rw [EN.out]; exact (K3.out.ex KL.out))
      obtain ⟨w7, hw7⟩ : ∃ w7, w7 = w6.setCells w.heap.size 16 (ints (keepL m2.e x)) := ⟨_, rfl⟩
      rw [← hw7] at M7 O7
      have HW7 := hid hw7
      have T7 := hid (show Ms w w7 (eraN m2) by rw [EN.out]; exact M7.out)
      clear hw7 M7 EN
      have hRow := hid (MB.setRow T7.out.R (eraN m2))
      have FIN := hid (below_setRow T7.out.bel (g := w.heap.size + 1) (by omega) (eraN m2).ag)
      have OF := hid ((O7.out.setRow (g := w.heap.size + 1) (by omega) (eraN m2).ag).more (base' := w.heap.size) (by omega))
      go_wp2_with (first
        | (refine wpList_store_mid rfl 23 (.tmp 67) (.tmp 65) rfl w.heap.size 16 (agi (keepL m2.e x)) rfl rfl TH.out SZ.out (agi_one _) ?_; rw [show (agi (keepL m2.e x)).toList = ints (keepL m2.e x) from rfl, ← HW7.out])
        | (refine wpList_loadM rfl (.tmp 2) rfl _ (eraN m2) rfl T7.out.A OKS.out ?_)
        | (refine wpList_storeM rfl (.tmp 4) (.tmp 68) rfl _ zeroM (eraN m2) rfl rfl T7.out.R zeroM_ok OKS.out ?_))
      refine bodyPost_ret (v := _) (hR _ _ _ (eraN m2) rfl hRow.out OKS.out) rfl ?_
      rw [FR.out, FY.out, HE.out]
      exact ⟨A5, c5, by rw [XL.out]; rfl, OF.out, FIN.out⟩

    · clear hHeld
      go_simp
      go_at_call 184
      (with_reducible refine (KF.out _).mono ?_)
      rintro e' w' ⟨rfl, rfl⟩
      refine hK.out _ _ ⟨c96, c99⟩ (fun hHeld => ?_)
      clear hK K
      try simp only [List.getElem_toArray, List.getElem_cons_zero, List.getElem_cons_succ, Act.put, List.setIfInBounds_toArray, List.set_cons_zero, List.set_cons_succ]
      refine wpAnyH_take (i := 7) (v := ?_) rfl (by kernel_rfl) (by kernel_rfl) (by kernel_rfl) (fun _ _ _ h => h) (Or.inl ⟨by rfl, ?_⟩) hHeld ?_
      rotate_left
      · intro w hSw; obtain ⟨hS1, hS2⟩ := hSw; go_simp
        try with_reducible rfl
      try simp only [List.getElem_toArray, List.getElem_cons_zero, List.getElem_cons_succ, Act.put, List.setIfInBounds_toArray, List.set_cons_zero, List.set_cons_succ]
      refine wpAnyH_ready (rs := [1]) (by kernel_rfl) (by simp) ?_
      refine AllReadyH.cons rfl (fun K hK => ?_) AllReadyH.nil
      clear hHeld
      go_simp
      refine hK.out _ _ ⟨c96, c99⟩ (fun hHeld => ?_)
      clear hK K
      try simp only [List.getElem_toArray, List.getElem_cons_zero, List.getElem_cons_succ, Act.put, List.setIfInBounds_toArray, List.set_cons_zero, List.set_cons_succ]
      refine wpAnyH_ready (rs := [8]) (by kernel_rfl) (by simp) ?_
      refine AllReadyH.cons rfl (fun K hK => ?_) AllReadyH.nil
      clear hHeld
      go_simp
      go_at_call 144
      (with_reducible refine (KN.out W2.drew).mono ?_)
      rintro e' w3 ⟨A3, c3, rfl, hO, hB⟩; have M3 : Ms w w3 m2 := MM.out.drew.below hB; have d96 : w3.cell? ⟨w.heap.size, 96, none⟩ = some (.int .i64 m2.ga) := M3.A.cga K2.out; have d99 : w3.cell? ⟨w.heap.size, 99, none⟩ = some (.int .i64 m2.er) := M3.A.cer K2.out; have d100 : w3.cell? ⟨w.heap.size, 100, none⟩ = some (.int .i64 m2.se) := M3.A.cse K2.out; have g100 : w3.frozen? ⟨w.heap.size, 100, none⟩ = false := MB.frozen M3.A 100; have M4 : Ms w (w3.setCell ⟨w.heap.size, 100, none⟩ (.int .i64 (nzE m2.se 40))) { m2 with se := nzE m2.se 40 } := M3.se K2.out (nzE m2.se 40); have h96 : (w3.setCell ⟨w.heap.size, 100, none⟩ (.int .i64 (nzE m2.se 40))).cell? ⟨w.heap.size, 96, none⟩ = some (.int .i64 m2.ga) := M4.A.cga (K2.out.se _); have h99 : (w3.setCell ⟨w.heap.size, 100, none⟩ (.int .i64 (nzE m2.se 40))).cell? ⟨w.heap.size, 99, none⟩ = some (.int .i64 m2.er) := M4.A.cer (K2.out.se _); have M4 := hid M4; have LT3 := hid M3.lt; have O3 := hid hO; clear hO hB
      refine hK.out _ _ ⟨d96, d99⟩ (fun hHeld => ?_)
      clear hK K
      try simp only [List.getElem_toArray, List.getElem_cons_zero, List.getElem_cons_succ, Act.put, List.setIfInBounds_toArray, List.set_cons_zero, List.set_cons_succ]
      refine wpAnyH_take (i := 9) (v := ?_) rfl (by kernel_rfl) (by kernel_rfl) (by kernel_rfl) (fun _ _ _ h => h) (Or.inl ⟨by rfl, ?_⟩) hHeld ?_
      rotate_left
      · intro w hSw; obtain ⟨hS1, hS2⟩ := hSw; go_simp
        try with_reducible rfl
      try simp only [List.getElem_toArray, List.getElem_cons_zero, List.getElem_cons_succ, Act.put, List.setIfInBounds_toArray, List.set_cons_zero, List.set_cons_succ]
      refine wpAnyH_take (i := 10) (v := ?_) rfl (by kernel_rfl) (by kernel_rfl) (by kernel_rfl) (fun _ _ _ h => h) (Or.inl ⟨by rfl, ?_⟩) hHeld ?_
      rotate_left
      · intro w hSw; obtain ⟨hS1, hS2⟩ := hSw; go_simp
        try with_reducible rfl
      try simp only [List.getElem_toArray, List.getElem_cons_zero, List.getElem_cons_succ, Act.put, List.setIfInBounds_toArray, List.set_cons_zero, List.set_cons_succ]
      refine wpAnyH_take (i := 11) (v := ?_) rfl (by kernel_rfl) (by kernel_rfl) (by kernel_rfl) (fun _ _ _ h => h) (Or.inl ⟨by rfl, ?_⟩) hHeld ?_
      rotate_left
      · intro w hSw; obtain ⟨hS1, hS2⟩ := hSw; go_simp
        try with_reducible rfl
      try simp only [List.getElem_toArray, List.getElem_cons_zero, List.getElem_cons_succ, Act.put, List.setIfInBounds_toArray, List.set_cons_zero, List.set_cons_succ]
      refine wpAnyH_take (i := 12) (v := ?_) rfl (by kernel_rfl) (by kernel_rfl) (by kernel_rfl) (fun _ _ _ h => h) (Or.inl ⟨by rfl, ?_⟩) hHeld ?_
      rotate_left
      · intro w hSw; obtain ⟨hS1, hS2⟩ := hSw; go_simp
        try with_reducible rfl
      try simp only [List.getElem_toArray, List.getElem_cons_zero, List.getElem_cons_succ, Act.put, List.setIfInBounds_toArray, List.set_cons_zero, List.set_cons_succ]
      refine wpAnyH_ready (rs := [13]) (by kernel_rfl) (by simp) ?_
      refine AllReadyH.cons rfl (fun K hK => ?_) AllReadyH.nil
      clear hHeld
      go_simp
      refine hK.out _ _ ⟨h96, h99⟩ (fun hHeld => ?_)
      clear hK K
      try simp only [List.getElem_toArray, List.getElem_cons_zero, List.getElem_cons_succ, Act.put, List.setIfInBounds_toArray, List.set_cons_zero, List.set_cons_succ]
      refine wpAnyH_take (i := 14) (v := ?_) rfl (by kernel_rfl) (by kernel_rfl) (by kernel_rfl) (fun _ _ _ h => h) (Or.inl ⟨by rfl, ?_⟩) hHeld ?_
      rotate_left
      · intro w hSw; obtain ⟨hS1, hS2⟩ := hSw; go_simp
        try with_reducible rfl
      try simp only [List.getElem_toArray, List.getElem_cons_zero, List.getElem_cons_succ, Act.put, List.setIfInBounds_toArray, List.set_cons_zero, List.set_cons_succ]
      refine wpAnyH_done (by kernel_rfl) ?_ _
      clear hHeld
      refine NoPanic.normal ?_
      have O4 := hid (show Own (w3.setCell ⟨w.heap.size, 100, none⟩ (.int .i64 (nzE m2.se 40))) (w.heap.size + 2) A3 c3 (nzL m2.se z 40) from Own.setC (O3.out.more (base' := w.heap.size + 2) (by have := MM.out.lt; exact this)) (by omega) 100 _)
      obtain ⟨W4, hW4⟩ : ∃ W4, W4 = w3.setCell ⟨w.heap.size, 100, none⟩ (.int .i64 (nzE m2.se 40)) := ⟨_, rfl⟩
      clear c96 c99 c100 d96 d99 d100 h96 h99 g100 hq hwz MM KN KF
      rw [← hW4] at M4 O4 ⊢
      clear hW4 M3 O3
      have K3 := hid (K2.out.se (nzE m2.se 40))
      have rg4 : W4.rangeAt w.heap.size 16 (ints m2.e) := M4.out.A.E K3.out
      have c98 : W4.cell? ⟨w.heap.size, 98, none⟩ = some (.int .i64 m2.la) := M4.out.A.cla K3.out
      have c97 : W4.cell? ⟨w.heap.size, 97, none⟩ = some (.int .i64 m2.pi) := M4.out.A.cpi K3.out
      have c99 : W4.cell? ⟨w.heap.size, 99, none⟩ = some (.int .i64 m2.er) := M4.out.A.cer K3.out
      have hu80 := Tryz.underlying23
      have hi80 : (Tryz.prog.info? 23).map (·.size) = some (ints m2.e).length := by rw [ints_len, K2.out.e]; exact size80k
      have R4 := hid (show Rs W4.drew W4.drew.heap.size A3 (nzL m2.se z 40) from O4.out.reads)
      simp only [Exit.then]
      go_wp2_with fail
      go_region_held3 (fun w' => w'.rangeAt w.heap.size 16 (ints m2.e) ∧ w'.cell? ⟨w.heap.size, 98, none⟩ = some (.int .i64 m2.la) ∧ w'.cell? ⟨w.heap.size, 97, none⟩ = some (.int .i64 m2.pi) ∧ w'.cell? ⟨w.heap.size, 99, none⟩ = some (.int .i64 m2.er)) (first | exact ⟨by assumption, by assumption, by assumption, by assumption⟩ | go_keep) (first
        | (go_at_call 184; (with_reducible refine (KG.out _).mono ?_); rintro e' w' ⟨rfl, rfl⟩)
        | (go_at_call 106; (with_reducible refine (KM.out W4.drew A3 c3 R4.out).mono ?_); rintro e' w5 ⟨A5, c5, rfl, hO, hB⟩; have M5 : Ms w w5 { m2 with se := nzE m2.se 40 } := M4.out.drew.below hB; have rg5 : w5.rangeAt w.heap.size 16 (ints m2.e) := M5.A.E K3.out; have d98 : w5.cell? ⟨w.heap.size, 98, none⟩ = some (.int .i64 m2.la) := M5.A.cla K3.out; have d97 : w5.cell? ⟨w.heap.size, 97, none⟩ = some (.int .i64 m2.pi) := M5.A.cpi K3.out; have d99 : w5.cell? ⟨w.heap.size, 99, none⟩ = some (.int .i64 m2.er) := M5.A.cer K3.out; have M5 := hid M5; have O5 := hid (hO.more (base' := w.heap.size + 2) (by have := M4.out.lt; exact this)); clear hO hB))
      rename_i hHeldZ
      clear hHeldZ
      clear rg4 c98 c97 c99 rg5 d98 d97 d99 hu80 M4 O4 R4 KM KG
      have KL := hid (keepL_len K2.out.e XL.out)
      have KK := hid (fun W A c (h : Rs W W.heap.size A x) => show Calls Tryz.prog 107 #[.agg (ints m2.e).toArray, .slice A 40 c] W (Keeps W m2.e x 40) from keep_any m2.e _ A c 40 W K2.out.e h XL.out (by omega))
      have HI80 := hid hi80
      clear hi80
      simp only [Exit.then]
      go_wp2_with (refine wpList_load_mid rfl 23 (.tmp 61) rfl _ _ rfl (ints m2.e) _ (M5.out.A.E K3.out) Tryz.underlying23 rfl HI80.out ?_)
      refine (KK.out w5 A5 c5 O5.out.reads).mono ?_
      rintro e w6 ⟨rfl, hB⟩
      have M6 := hid (M5.out.below hB)
      have O6 := hid (O5.out.below hB)
      clear hB M5 O5 KK
      have hKE := hid (show keepA m2.e x 40 = keepL m2.e x from rfl)
      rw [hKE.out]
      have M7 := hid (M6.out.ex K3.out _ KL.out)
      have O7 := hid (Own.setCs (g := w.heap.size) (by omega) (ints (keepL m2.e x)) 16 _ O6.out)
      have SZ := hid (show (Tryz.prog.info? 23).map (·.size) = some (agi (keepL m2.e x)).size from by rw [agi_size, KL.out]; exact size80k)
      have TH := hid (show w6.there w.heap.size 16 (agi (keepL m2.e x)).size from by rw [agi_size, KL.out]; exact M6.out.A.thereE K3.out)
      have OKS := hid (show (eraN m2).ok by rw [EN.out]; exact (K3.out.ex KL.out))
      obtain ⟨w7, hw7⟩ : ∃ w7, w7 = w6.setCells w.heap.size 16 (ints (keepL m2.e x)) := ⟨_, rfl⟩
      rw [← hw7] at M7 O7
      have HW7 := hid hw7
      have T7 := hid (show Ms w w7 (eraN m2) by rw [EN.out]; exact M7.out)
      clear hw7 M7 EN
      have hRow := hid (MB.setRow T7.out.R (eraN m2))
      have FIN := hid (below_setRow T7.out.bel (g := w.heap.size + 1) (by omega) (eraN m2).ag)
      have OF := hid ((O7.out.setRow (g := w.heap.size + 1) (by omega) (eraN m2).ag).more (base' := w.heap.size) (by omega))
      go_wp2_with (first
        | (refine wpList_store_mid rfl 23 (.tmp 67) (.tmp 65) rfl w.heap.size 16 (agi (keepL m2.e x)) rfl rfl TH.out SZ.out (agi_one _) ?_; rw [show (agi (keepL m2.e x)).toList = ints (keepL m2.e x) from rfl, ← HW7.out])
        | (refine wpList_loadM rfl (.tmp 2) rfl _ (eraN m2) rfl T7.out.A OKS.out ?_)
        | (refine wpList_storeM rfl (.tmp 4) (.tmp 68) rfl _ zeroM (eraN m2) rfl rfl T7.out.R zeroM_ok OKS.out ?_))
      refine bodyPost_ret (v := _) (hR _ _ _ (eraN m2) rfl hRow.out OKS.out) rfl ?_
      rw [FR.out, FY.out, HE.out]
      exact ⟨A5, c5, by rw [XL.out]; rfl, OF.out, FIN.out⟩
end Go.Proofs.YthoiikkjjaldnaaGreatDoor

/- The reference's Silent. -/
namespace Go.Proofs.YthoiikkjjaldnaaGreatDoor
set_option linter.unusedVariables false
set_option linter.unusedSimpArgs false
set_option maxRecDepth 100000
open Go.RowKit

theorem w64_of16 {xs : List Int} (h : all16 xs = true) : W64 xs := fun x hx => by
  unfold all16 at h
  have := List.all_eq_true.1 h x hx
  unfold ok16 at this
  simp at this
  omega
set_option maxHeartbeats 4000000 in
theorem refSilent_any (m : Mm) (k : m.ok) (hw64 : W64 m.nums) (w : World) : Calls Tryz.prog 77 #[.agg m.ag] w (NewM w (silR m) (silY m) (errOf (goodM m))) := by
  have hR := results_mem3 (fn := Tryz.f77) (p := 2) (q := 3) (r := 4) rfl
  have S0 := hid (Ms.start w m)
  have K := hid k
  have KG := hid (fun W => refGood_any m k hw64 W)
  have KN := hid (fun W => refNoises_any 8 40 m.se W (by omega) (hw64 m.se (by unfold Mm.nums; simp)).1 (hw64 m.se (by unfold Mm.nums; simp)).2)
  have NL := hid (nzL_len m.se 8 40)
  have KL := hid (keepL_len k.e (nzL_len m.se 8 40))
  have FR := hid (show silR m = if goodM m then silM m else zeroM from rfl)
  have FY := hid (show silY m = if goodM m then nzL m.se 8 40 else [] from rfl)
  have FM := hid (show silM m = { m with se := nzE m.se 40, e := keepL m.e (nzL m.se 8 40) } from rfl)
  have KK := hid (fun W A c (h : Rs W W.heap.size A (nzL m.se 8 40)) => show Calls Tryz.prog 134 #[.agg (ints m.e).toArray, .slice A 40 c] W (Keeps W m.e (nzL m.se 8 40) 40) from refKeep_any m.e _ A c 40 W k.e h (nzL_len _ _ _) (by omega) (w64_of16 (nzL_in _ _ _)))
  have hi80 : (Tryz.prog.info? 23).map (·.size) = some (ints m.e).length := by rw [ints_len, k.e]; exact size80k
  have HI80 := hid hi80
  clear k hi80 hw64
  go_enter Tryz.func77, Tryz.ntmps77
  go_wp2_with (refine wpList_loadM rfl (.tmp 1) rfl _ m rfl S0.out.A K.out ?_)
  refine (KG.out _).mono ?_
  rintro e w1 ⟨rfl, hB⟩
  have S1 := hid (S0.out.below hB)
  clear hB S0 KG
  cases hg : goodM m with
  | false =>
    have HG := hid hg
    clear hg
    have hRow := hid (MB.setRow S1.out.R zeroM)
    have FIN := hid (below_setRow S1.out.bel (g := w.heap.size + 1) (by omega) zeroM.ag)
    go_wp2_with (refine wpList_storeM rfl (.tmp 2) (.tmp 10) rfl _ zeroM zeroM rfl (congrArg Value.agg zeroM_ag) S1.out.R zeroM_ok zeroM_ok ?_)
    refine bodyPost_ret (v := _) (hR _ _ _ zeroM rfl hRow.out zeroM_ok) rfl ?_
    rw [FR.out, FY.out, HG.out]
    exact ⟨none, 0, rfl, Own.nil, FIN.out⟩
  | true =>
    have HG := hid hg
    clear hg
    have cse := S1.out.A.cse K.out
    go_wp2_with fail
    refine (KN.out _).mono ?_
    rintro e w2 ⟨A2, c2, rfl, hO, hB⟩
    have S2 := hid (S1.out.below hB)
    have LT := hid S1.out.lt
    have O2 := hid hO
    clear hB hO
    have cse2 := S2.out.A.cse K.out
    have fse2 := MB.frozen S2.out.A 100
    have S3 := hid (S2.out.se K.out (nzE m.se 40))
    have O3 := hid (Own.setC (g := w.heap.size) O2.out (by have := LT.out; omega) 100 (.int .i64 (nzE m.se 40)))
    obtain ⟨w3, hw3⟩ : ∃ w3, w3 = w2.setCell ⟨w.heap.size, 100, none⟩ (.int .i64 (nzE m.se 40)) := ⟨_, rfl⟩
    rw [← hw3] at S3 O3
    have HW3 := hid hw3
    clear hw3 LT
    have K3 := hid (K.out.se (nzE m.se 40))
    go_wp2_with (first
      | (rw [← HW3.out])
      | (refine wpList_load_mid rfl 23 (.tmp 20) rfl _ _ rfl (ints m.e) _ (S3.out.A.E K3.out) Tryz.underlying23 rfl HI80.out ?_))
    refine (KK.out w3 A2 c2 O3.out.reads).mono ?_
    rintro e w4 ⟨rfl, hB⟩
    have S4 := hid (S3.out.below hB)
    have O4 := hid (O3.out.below hB)
    have LT := hid S1.out.lt
    clear hB
    have hKE := hid (show keepA m.e (nzL m.se 8 40) 40 = keepL m.e (nzL m.se 8 40) from rfl)
    rw [hKE.out]
    have S5 := hid (S4.out.ex K3.out _ KL.out)
    have O5 := hid (Own.setCs (g := w.heap.size) (by have := LT.out; omega) (ints (keepL m.e (nzL m.se 8 40))) 16 _ O4.out)
    obtain ⟨w5, hw5⟩ : ∃ w5, w5 = w4.setCells w.heap.size 16 (ints (keepL m.e (nzL m.se 8 40))) := ⟨_, rfl⟩
    rw [← hw5] at S5 O5
    have HW5 := hid hw5
    clear hw5
    have OK5 := hid (show Mm.ok _ from (K3.out.ex KL.out))
    have T5 := hid (show Ms w w5 (silM m) from S5.out)
    have OKS := hid (silM_ok K.out)
    have hRow := hid (MB.setRow T5.out.R (silM m))
    have FIN := hid (below_setRow T5.out.bel (g := w.heap.size + 1) (by omega) (silM m).ag)
    have OF := hid ((O5.out.setRow (g := w.heap.size + 1) (by have := LT.out; omega) (silM m).ag).more (base' := w.heap.size) (by have := LT.out; omega))
    have SZ := hid (show (Tryz.prog.info? 23).map (·.size) = some (agi (keepL m.e (nzL m.se 8 40))).size from by rw [agi_size, KL.out]; exact size80k)
    have TH := hid (show w4.there w.heap.size 16 (agi (keepL m.e (nzL m.se 8 40))).size from by rw [agi_size, KL.out]; exact S4.out.A.thereE K3.out)
    go_wp2_with (first
      | (refine wpList_store_mid rfl 23 (.tmp 26) (.tmp 24) rfl w.heap.size 16 (agi (keepL m.e (nzL m.se 8 40))) rfl rfl TH.out SZ.out (agi_one _) ?_; rw [show (agi (keepL m.e (nzL m.se 8 40))).toList = ints (keepL m.e (nzL m.se 8 40)) from rfl, ← HW5.out])
      | (refine wpList_loadM rfl (.tmp 1) rfl _ (silM m) rfl T5.out.A OKS.out ?_)
      | (refine wpList_storeM rfl (.tmp 2) (.tmp 27) rfl _ zeroM (silM m) rfl rfl T5.out.R zeroM_ok OKS.out ?_))
    refine bodyPost_ret (v := _) (hR _ _ _ (silM m) rfl hRow.out OKS.out) rfl ?_
    rw [FR.out, FY.out, HG.out]
    exact ⟨A2, c2, by rw [if_pos rfl, if_pos rfl, NL.out]; rfl, by rw [if_pos rfl]; exact OF.out, FIN.out⟩
end Go.Proofs.YthoiikkjjaldnaaGreatDoor

/- The walk of Mix, the program's. -/
namespace Go.Proofs.YthoiikkjjaldnaaGreatDoor
set_option linter.unusedVariables false
set_option linter.unusedSimpArgs false
set_option maxRecDepth 100000
open Go.RowKit

def Mixes (w : World) (a b : List Int) (num : Int) (e : Ending) (w' : World) : Prop := e = .returned (.tuple #[.agg (agi (mixL a b num)), .int .i64 (errOf (mixB a b num))]) ∧ Below w.heap.size w w'
def Z8 : List Int := List.replicate 8 0
def Z9 : List Int := List.replicate 9 0
theorem z8_eq : agi Z8 = #[.int .i64 0, .int .i64 0, .int .i64 0, .int .i64 0, .int .i64 0, .int .i64 0, .int .i64 0, .int .i64 0] := rfl
theorem z9_eq : agi Z9 = #[.int .i64 0, .int .i64 0, .int .i64 0, .int .i64 0, .int .i64 0, .int .i64 0, .int .i64 0, .int .i64 0, .int .i64 0] := rfl
theorem size8 : (Tryz.prog.info? 22).map (·.size) = some 8 := by kernel_rfl
theorem size9 : (Tryz.prog.info? 90).map (·.size) = some 9 := by kernel_rfl

theorem mix_bad {w w' : World} {a b : List Int} {num : Int} (h : mixB a b num = false) (hB : Below w.heap.size w w') : Mixes w a b num (.returned (.tuple #[.agg (agi Z8), .int .i64 2])) w' := by
  refine ⟨?_, hB⟩
  unfold mixL errOf
  rw [h]
  rfl
theorem mix_good {w w' : World} {a b ys : List Int} {num : Int} (h : mixB a b num = true) (hl : ys.length = 8) (hy : ∀ j, j < 8 → ys.getD j 0 = mixE a b num j) (hB : Below w.heap.size w w') : Mixes w a b num (.returned (.tuple #[.agg (agi ys), .int .i64 0])) w' := by
  refine ⟨?_, hB⟩
  have e : ys = mixL a b num := by
    apply list_ext (by rw [hl, mixL_len])
    intro j hj
    rw [hy j (by omega)]
    unfold mixL
    rw [if_pos h, List.getD_eq_getElem?_getD, List.getElem?_map, List.getElem?_range (by omega)]
    rfl
  unfold errOf
  rw [h, e]
  rfl
theorem mixB_a {a b : List Int} {num : Int} {k : Nat} (hk : k < a.length) (h : a.getD k 0 ≤ -32768 ∨ 32768 ≤ a.getD k 0) : mixB a b num = false := by
  unfold mixB steadyB; rw [all_no hk (okR_no h)]; simp
theorem mixB_b {a b : List Int} {num : Int} {k : Nat} (hk : k < b.length) (h : b.getD k 0 ≤ -32768 ∨ 32768 ≤ b.getD k 0) : mixB a b num = false := by
  unfold mixB steadyB; rw [all_no hk (okR_no h)]; simp

structure MixInv (w wr : World) (a b ys : List Int) : Prop where
  A : IB wr w.heap.size 22 a
  B : IB wr (w.heap.size + 1) 22 b
  R : IB wr (w.heap.size + 1 + 1) 22 Z8
  O : IB wr (w.heap.size + 1 + 1 + 1) 22 ys
  bel : Below w.heap.size w wr
theorem MixInv.start (w : World) (a b : List Int) : MixInv w ((((w.alloc (.cells (agi a) 22)).alloc (.cells (agi b) 22)).alloc (.cells (agi Z8) 22)).alloc (.cells (agi Z8) 22)) a b Z8 := by
  have h1 := IB.new w 22 a
  have h2 := IB.new (w.alloc (.cells (agi a) 22)) 22 b
  have h3 := IB.new ((w.alloc (.cells (agi a) 22)).alloc (.cells (agi b) 22)) 22 Z8
  have h4 := IB.new (((w.alloc (.cells (agi a) 22)).alloc (.cells (agi b) 22)).alloc (.cells (agi Z8) 22)) 22 Z8
  simp only [World.size_alloc] at h2 h3 h4
  exact ⟨((Blk.alloc h1 _).alloc _).alloc _, (Blk.alloc h2 _).alloc _, Blk.alloc h3 _, h4, ((((Below.refl _ _).alloc (Nat.le_refl _) _).alloc (by simp) _).alloc (by simp; omega) _).alloc (by simp; omega) _⟩

set_option maxHeartbeats 4000000 in
theorem lmix_any (a b : List Int) (num : Int) (w : World) (ha : a.length = 8) (hb : b.length = 8) : Calls Tryz.prog 88 #[.agg (agi a), .agg (agi b), .int .i64 num] w (Mixes w a b num) := by
  have S0 := hid (MixInv.start w a b)
  by_cases h1 : num < 0 ∨ 4 < num
  · have FIN := hid ((((((Below.refl _ w).alloc (Nat.le_refl _) (.cells (agi a) 22)).alloc (by simp) (.cells (agi b) 22)).alloc (by simp; omega) (.cells (agi Z8) 22))))
    have h3 := IB.new ((w.alloc (.cells (agi a) 22)).alloc (.cells (agi b) 22)) 22 Z8
    simp only [World.size_alloc] at h3
    have hRow := hid h3
    have hRow2 := hid (h3.setRow Z8)
    have FIN := hid (mix_bad (a := a) (b := b) (num := num) (by unfold mixB; simp; omega) (below_setRow FIN.out (g := w.heap.size + 1 + 1) (by omega) (agi Z8)))
    clear h3
    have hR := results_row2 (fn := Tryz.f88) (p := 6) (q := 7) (ty := 22) rfl
    rcases h1 with h1 | h1
    · have d1 : decide (num < 0) = true := by simpa using h1
      go_enter Tryz.func88, Tryz.ntmps88
      go_wp2_with (refine wpList_storeI rfl 22 (.tmp 6) (.tmp 16) rfl _ 22 Z8 Z8 8 rfl rfl hRow.out size8 rfl rfl ?_)
      refine bodyPost_ret (v := _) (hR _ _ _ 22 Z8 _ 8 rfl hRow2.out Tryz.underlying22 rfl size8 rfl) rfl ?_
      exact FIN.out
    · have d1 : decide (num < 0) = false := by simp; omega
      have d2 : decide (4 < num) = true := by simpa using h1
      go_enter Tryz.func88, Tryz.ntmps88
      go_wp2_with (refine wpList_storeI rfl 22 (.tmp 6) (.tmp 16) rfl _ 22 Z8 Z8 8 rfl rfl hRow.out size8 rfl rfl ?_)
      refine bodyPost_ret (v := _) (hR _ _ _ 22 Z8 _ 8 rfl hRow2.out Tryz.underlying22 rfl size8 rfl) rfl ?_
      exact FIN.out
  · have h0 : 0 ≤ num := by omega
    have h4 : num ≤ 4 := by omega
    have d1 : decide (num < 0) = false := by simp; omega
    have d2 : decide (4 < num) = false := by simp; omega
    clear h1
    rw [z8_eq] at S0
    have HA := hid ha
    have HB := hid hb
    clear ha hb
    go_enter Tryz.func88, Tryz.ntmps88
    go_wp2
    go_loopw [17] (fun iv wr => ∃ (k : Nat) (ys : List Int), k ≤ 8 ∧ iv = .int .i64 k ∧ Hid (ys.length = 8 ∧ (allTo okR a k ∧ allTo okR b k) ∧ ∀ j, j < k → ys.getD j 0 = mixE a b num j) ∧ Hid (MixInv w wr a b ys)) (fun iv _ => 8 - (intOf iv).toNat)
    case atStart => exact ⟨0, Z8, by omega, rfl, hid ⟨rfl, ⟨allTo.zero, allTo.zero⟩, fun j h => by omega⟩, S0⟩
    case round =>
      clear S0
      obtain ⟨k, ys, hk, rfl, HY, HI⟩ := hrel
      by_cases hlt : k < 8
      · have ca := HI.out.A.cell k (by rw [HA.out]; exact hlt)
        have cb := HI.out.B.cell k (by rw [HB.out]; exact hlt)
        have co := HI.out.O.cell k (by rw [HY.out.1]; exact hlt)
        have fo := HI.out.O.frozen k
        obtain ⟨x, hx⟩ : ∃ x, x = a.getD k 0 := ⟨_, rfl⟩
        obtain ⟨y, hy⟩ : ∃ y, y = b.getD k 0 := ⟨_, rfl⟩
        rw [← hx] at ca
        rw [← hy] at cb
        have HX := hid hx
        have HYY := hid hy
        clear hx hy
        by_cases hbad : (x ≤ -32768 ∨ 32768 ≤ x) ∨ (y ≤ -32768 ∨ 32768 ≤ y)
        · have FIN := hid (fun (w1 : World) => mix_bad (w := w) (w' := w1) (a := a) (b := b) (num := num) (by
            rcases hbad with h | h
            · exact mixB_a (k := k) (by rw [HA.out]; exact hlt) (by rw [← HX.out]; exact h)
            · exact mixB_b (k := k) (by rw [HB.out]; exact hlt) (by rw [← HYY.out]; exact h)))
          have hB := hid (below_setRow HI.out.bel (g := w.heap.size + 1 + 1) (by omega) (agi Z8))
          have hRow := hid (HI.out.R.setRow Z8)
          have hR := results_row2 (fn := Tryz.f88) (p := 6) (q := 7) (ty := 22) rfl
          by_cases b1 : x ≤ -32768
          · go_wp2_with (refine wpList_storeI rfl 22 (.tmp 6) (.tmp 42) rfl _ 22 Z8 Z8 8 rfl rfl HI.out.R size8 rfl rfl ?_)
            refine bodyPost_ret (v := _) (hR _ _ _ 22 Z8 _ 8 rfl hRow.out Tryz.underlying22 rfl size8 rfl) rfl ?_
            exact FIN.out _ hB.out
          by_cases b2 : 32768 ≤ x
          · go_wp2_with (refine wpList_storeI rfl 22 (.tmp 6) (.tmp 42) rfl _ 22 Z8 Z8 8 rfl rfl HI.out.R size8 rfl rfl ?_)
            refine bodyPost_ret (v := _) (hR _ _ _ 22 Z8 _ 8 rfl hRow.out Tryz.underlying22 rfl size8 rfl) rfl ?_
            exact FIN.out _ hB.out
          by_cases b3 : y ≤ -32768
          · go_wp2_with (refine wpList_storeI rfl 22 (.tmp 6) (.tmp 42) rfl _ 22 Z8 Z8 8 rfl rfl HI.out.R size8 rfl rfl ?_)
            refine bodyPost_ret (v := _) (hR _ _ _ 22 Z8 _ 8 rfl hRow.out Tryz.underlying22 rfl size8 rfl) rfl ?_
            exact FIN.out _ hB.out
          have b4 : 32768 ≤ y := by omega
          go_wp2_with (refine wpList_storeI rfl 22 (.tmp 6) (.tmp 42) rfl _ 22 Z8 Z8 8 rfl rfl HI.out.R size8 rfl rfl ?_)
          refine bodyPost_ret (v := _) (hR _ _ _ 22 Z8 _ 8 rfl hRow.out Tryz.underlying22 rfl size8 rfl) rfl ?_
          exact FIN.out _ hB.out
        · have b1 : -32768 < x := by omega
          have b2 : x < 32768 := by omega
          have b3 : -32768 < y := by omega
          have b4 : y < 32768 := by omega
          obtain ⟨m1, m2, m3, m4⟩ := mix_sum ⟨b1, b2⟩ ⟨b3, b4⟩ ⟨h0, h4⟩
          have NEXT := hid (show Hid ((ys.set k ((x * (4 - num) + y * num).tdiv 4)).length = 8 ∧ (allTo okR a (k + 1) ∧ allTo okR b (k + 1)) ∧ ∀ j, j < k + 1 → (ys.set k ((x * (4 - num) + y * num).tdiv 4)).getD j 0 = mixE a b num j) from by
            obtain ⟨q1, ⟨q2, q3⟩, q4⟩ := HY.out
            refine ⟨by simpa using q1, ⟨q2.succ (by rw [← HX.out]; exact okR_yes b1 b2), q3.succ (by rw [← HYY.out]; exact okR_yes b3 b4)⟩, fun j hj => ?_⟩
            by_cases he : k = j
            · subst he
              rw [get_set_same _ _ _ (by omega), mixE, ← HX.out, ← HYY.out]
            · rw [get_set_other _ _ he]
              exact q4 j (by omega))
          have NI := hid (fun v => show MixInv w (wr.setCell ⟨w.heap.size + 1 + 1 + 1, k, none⟩ (.int .i64 v)).drew a b (ys.set k v) from
            ⟨Blk.far HI.out.A (by simp; try omega) _, Blk.far HI.out.B (by simp; try omega) _, Blk.far HI.out.R (by simp; try omega) _, HI.out.O.set_ k v, Below.drew (HI.out.bel.setCell (p := ⟨w.heap.size + 1 + 1 + 1, k, none⟩) (show w.heap.size ≤ w.heap.size + 1 + 1 + 1 by omega) _)⟩)
          clear hbad
          go_wp2
          go_region
          all_goals
            go_wp2
            go_roundw
            case rel => exact ⟨k + 1, _, by omega, by go_num, NEXT.out, NI.out _⟩
            case measure => simp [intOf] <;> omega
      · obtain rfl : k = 8 := by omega
        have hg : mixB a b num = true := by
          unfold mixB steadyB
          rw [HY.out.2.1.1.all (by rw [HA.out]; exact Nat.le_refl _), HY.out.2.1.2.all (by rw [HB.out]; exact Nat.le_refl _)]
          simp; omega
        have FIN := hid (fun (w1 : World) => mix_good (w := w) (w' := w1) hg HY.out.1 HY.out.2.2)
        have hB := hid (below_setRow HI.out.bel (g := w.heap.size + 1 + 1) (by omega) (agi ys))
        have hRow := hid (HI.out.R.setRow ys)
        have hR := results_row2 (fn := Tryz.f88) (p := 6) (q := 7) (ty := 22) rfl
        clear hlt hg
        go_wp2_with (first
          | (refine wpList_loadI rfl 22 (.tmp 8) rfl _ 22 ys 8 _ rfl HI.out.O Tryz.underlying22 rfl size8 HY.out.1 ?_)
          | (refine wpList_storeI rfl 22 (.tmp 6) (.tmp 59) rfl _ 22 Z8 ys 8 rfl rfl HI.out.R size8 rfl HY.out.1 ?_))
        refine bodyPost_ret (v := _) (hR _ _ _ 22 ys _ 8 rfl hRow.out Tryz.underlying22 rfl size8 HY.out.1) rfl ?_
        exact FIN.out _ hB.out
end Go.Proofs.YthoiikkjjaldnaaGreatDoor

/- The walk of the reference's Steady. -/
namespace Go.Proofs.YthoiikkjjaldnaaGreatDoor
set_option linter.unusedVariables false
set_option linter.unusedSimpArgs false
set_option maxRecDepth 100000
open Go.RowKit

/-- A function that answers a Bool and makes new memory at most. -/
def AnsB (w : World) (b : Bool) (e : Ending) (w' : World) : Prop := e = .returned (.bool b) ∧ Below w.heap.size w w'

set_option maxHeartbeats 2000000 in
theorem steady_any (a : List Int) (w : World) (ha : a.length = 8) : Calls Tryz.prog 176 #[.agg (agi a)] w (AnsB w (steadyB a)) := by
  have hI := hid (IB.new w 22 a)
  have HA := hid ha
  have hix := fun (k : Nat) (hk : k < 8) (w : World) => run_index_agi Tryz.underlying22 a ha k hk w
  have HIX := hid hix
  clear ha hix
  go_enter Tryz.func176, Tryz.ntmps176
  go_wp2_with (refine wpList_loadI rfl 22 (.tmp 1) rfl _ 22 a 8 _ rfl hI.out Tryz.underlying22 rfl size8 HA.out ?_)
  go_loop [6] (fun iv => ∃ k : Nat, k ≤ 8 ∧ iv = .int .i64 k ∧ Hid (allTo okR a k)) (fun iv => 8 - (intOf iv).toNat)
  case atStart => exact ⟨0, by omega, rfl, hid allTo.zero⟩
  case round =>
    obtain ⟨k, hk, rfl, HY⟩ := hrel
    by_cases hlt : k < 8
    · have hix := HIX.out k hlt
      obtain ⟨x, hx⟩ : ∃ x, x = a.getD k 0 := ⟨_, rfl⟩
      rw [← hx] at hix
      have HX := hid hx
      clear hx
      by_cases b1 : x ≤ -32768
      · have HF := hid (show steadyB a = false from all_no (i := k) (by rw [HA.out]; exact hlt) (okR_no (by rw [← HX.out]; exact .inl b1)))
        go_wp2
        go_ret
        exact ⟨by rw [HF.out]; rfl, (Below.refl _ _).alloc (Nat.le_refl _) _⟩
      by_cases b2 : 32768 ≤ x
      · have HF := hid (show steadyB a = false from all_no (i := k) (by rw [HA.out]; exact hlt) (okR_no (by rw [← HX.out]; exact .inr b2)))
        go_wp2
        go_ret
        exact ⟨by rw [HF.out]; rfl, (Below.refl _ _).alloc (Nat.le_refl _) _⟩
      have HN := hid (HY.out.succ (by rw [← HX.out]; exact okR_yes (by omega) (by omega)))
      go_wp2
      go_round
      case rel => exact ⟨k + 1, by omega, by go_num, HN⟩
      case measure => simp [intOf] <;> omega
    · obtain rfl : k = 8 := by omega
      have HF := hid (show steadyB a = true from HY.out.all (by rw [HA.out]; exact Nat.le_refl _))
      go_wp2
      go_ret
      exact ⟨by rw [HF.out]; rfl, (Below.refl _ _).alloc (Nat.le_refl _) _⟩
end Go.Proofs.YthoiikkjjaldnaaGreatDoor

/- The walks of Quo, BitLen, IsInt64, where the seat has them. -/
namespace Go.Proofs.YthoiikkjjaldnaaGreatDoor
set_option linter.unusedVariables false
set_option linter.unusedSimpArgs false
set_option maxRecDepth 100000
open Go.RowKit

set_option maxHeartbeats 2000000 in
theorem Quo_any (w : World) (b c d : Nat) (x y : Int) (hb : IntBlk w b) (hc : IntAt w c x) (hd : IntAt w d y)
    (hx : x.natAbs < 18446744073709551616 ∨ y.natAbs < 4294967296) (hy : y ≠ 0) (sx : Sm x.natAbs) (sy : Sm y.natAbs) :
    Calls Tryz.prog 113 #[.pointer (some ⟨b, 0, none⟩), .pointer (some ⟨c, 0, none⟩), .pointer (some ⟨d, 0, none⟩)] w (Gives w b (x.tdiv y)) := by
  have HB := hid hb
  have HC := hid hc
  have HD := hid hd
  have hlb := hb.lt
  have K := hid (QuoRem_any (w.alloc (.cells #[.bool false, .slice none 0 0] 80)) b c d w.heap.size x y (hb.below ((Below.refl _ _).alloc (Nat.le_refl _) _) (Nat.le_refl _)) (hc.below ((Below.refl _ _).alloc (Nat.le_refl _) _) (Nat.le_refl _)) (hd.below ((Below.refl _ _).alloc (Nat.le_refl _) _) (Nat.le_refl _)) (IntBlk.new w _ _) (by omega) hx hy sx sy)
  clear hb hc hd hx hy
  go_enter Tryz.func113, Tryz.ntmps113
  go_wp2_with fail
  refine K.out.mono ?_
  rintro e w1 ⟨rfl, hQ, hR, w1', g1, g2⟩
  have q1 := hid hQ
  have q2 := hid (And.intro g1 g2)
  clear hQ hR g1 g2
  go_wp2
  go_ret
  refine ⟨rfl, q1.out, ?_⟩
  obtain ⟨g1, g2⟩ := q2.out
  have hs1 := g1.size
  have hs2 := g2.size
  simp at hs1
  exact ⟨g2.os.trans g1.os, g2.tape.trans g1.tape, g2.output.trans g1.output, by omega, fun k hk hn => by
    rw [g2.block k (by omega) (by simp; omega), g1.block k (by simp; omega) hn]
    exact Below.heap_alloc _ _ _ hk⟩
theorem BitLen_any (w : World) (c : Nat) (x : Int) (hc : IntAt w c x) (sx : Sm x.natAbs) :
    Calls Tryz.prog 112 #[.pointer (some ⟨c, 0, none⟩)] w fun e w' => e = .returned (.int .i64 (bitlen x.natAbs : Nat)) ∧ w = w' := by
  obtain ⟨v, h0, h1, hv⟩ := hc.cells
  have K := hid (length_any w v _ hv sx)
  clear hv hc
  go_enter Tryz.func112, Tryz.ntmps112
  go_wp2_with (go_at_call 154; refine K.out.mono ?_; rintro e w1 ⟨rfl, rfl⟩)
  go_ret
  exact ⟨rfl, rfl⟩
theorem IsInt64_yes (w : World) (c : Nat) (x : Int) (hc : IntAt w c x) (h1 : -9223372036854775808 < x) (h2 : x ≤ 9223372036854775807) :
    Calls Tryz.prog 114 #[.pointer (some ⟨c, 0, none⟩)] w fun e w' => e = .returned (.bool true) ∧ w = w' := by
  obtain ⟨v, h0, h3, hv⟩ := hc.cells
  have hb : bitlen x.natAbs ≤ 63 := bitlen_le_of_lt (by omega)
  have K := hid (length_any w v _ hv (sm_of_lt (by omega)))
  clear hv hc
  generalize bitlen x.natAbs = n at *
  have d1 : decide (n < 64) = true := by simp; omega
  go_enter Tryz.func114, Tryz.ntmps114
  go_wp2_with (go_at_call 154; refine K.out.mono ?_; rintro e w1 ⟨rfl, rfl⟩)
  go_ret
  exact ⟨rfl, rfl⟩
end Go.Proofs.YthoiikkjjaldnaaGreatDoor

/- The walk of the reference's Mix. -/
namespace Go.Proofs.YthoiikkjjaldnaaGreatDoor
set_option linter.unusedVariables false
set_option linter.unusedSimpArgs false
set_option maxRecDepth 100000
open Go.RowKit

theorem below_dA (w : World) (n : Nat) (o : Obj) : Below w.heap.size w ((w.drewN n).alloc o) :=
  Below.alloc (a := w) (w := w.drewN n) ⟨rfl, rfl, rfl, Nat.le_refl _, fun _ _ => rfl⟩ (Nat.le_refl _) o

/-- The two arguments' boxes and the answer's, what lies below untouched. -/
structure Bx3 (w wr : World) (a b r : List Int) : Prop where
  A : IB wr w.heap.size 22 a
  B : IB wr (w.heap.size + 1) 22 b
  R : IB wr (w.heap.size + 1 + 1) 22 r
  bel : Below w.heap.size w wr
theorem Bx3.lt {w wr : World} {a b r : List Int} (h : Bx3 w wr a b r) : w.heap.size + 1 + 1 < wr.heap.size := Blk.lt h.R
theorem Bx3.below {w wr wr' : World} {a b r : List Int} (h : Bx3 w wr a b r) (hb : Below wr.heap.size wr wr') : Bx3 w wr' a b r :=
  ⟨Blk.below' h.A hb, Blk.below' h.B hb, Blk.below' h.R hb, h.bel.trans (hb.mono (by have := h.lt; omega))⟩
theorem Bx3.setCell {w wr : World} {a b r : List Int} (h : Bx3 w wr a b r) {g : Nat} (hg : w.heap.size + 1 + 1 < g) (k : Nat) (v : Value) : Bx3 w (wr.setCell ⟨g, k, none⟩ v) a b r :=
  ⟨Blk.far h.A (by show w.heap.size ≠ g; omega) _, Blk.far h.B (by show w.heap.size + 1 ≠ g; omega) _, Blk.far h.R (by show w.heap.size + 1 + 1 ≠ g; omega) _, h.bel.setCell (p := ⟨g, k, none⟩) (by show w.heap.size ≤ g; omega) _⟩
theorem Bx3.start (w : World) (a b : List Int) : Bx3 w (((w.alloc (.cells (agi a) 22)).alloc (.cells (agi b) 22)).alloc (.cells (agi Z8) 22)) a b Z8 := by
  have h1 := IB.new w 22 a
  have h2 := IB.new (w.alloc (.cells (agi a) 22)) 22 b
  have h3 := IB.new ((w.alloc (.cells (agi a) 22)).alloc (.cells (agi b) 22)) 22 Z8
  simp only [World.size_alloc] at h2 h3
  exact ⟨(Blk.alloc h1 _).alloc _, Blk.alloc h2 _, h3, (((Below.refl _ _).alloc (Nat.le_refl _) _).alloc (by simp) _).alloc (by simp; omega) _⟩

set_option maxHeartbeats 4000000 in
theorem refLmix_any (a b : List Int) (num : Int) (w : World) (ha : a.length = 8) (hb : b.length = 8) (hn : -9223372036854775808 ≤ num) (hn2 : num ≤ 9223372036854775807) : Calls Tryz.prog 119 #[.agg (agi a), .agg (agi b), .int .i64 num] w (Mixes w a b num) := by
  have I0 := hid (Bx3.start w a b)
  have hR := results_row2 (fn := Tryz.f119) (p := 6) (q := 7) (ty := 22) rfl
  by_cases h1 : num < 0 ∨ 4 < num
  · have FIN := hid (mix_bad (a := a) (b := b) (num := num) (by unfold mixB; simp; omega) (below_setRow I0.out.bel (g := w.heap.size + 1 + 1) (by omega) (agi Z8)))
    have hRow2 := hid (I0.out.R.setRow Z8)
    rcases h1 with h1 | h1
    · have d1 : decide (num < 0) = true := by simpa using h1
      go_enter Tryz.func119, Tryz.ntmps119
      go_wp2_with (refine wpList_storeI rfl 22 (.tmp 6) (.tmp 27) rfl _ 22 Z8 Z8 8 rfl rfl I0.out.R size8 rfl rfl ?_)
      refine bodyPost_ret (v := _) (hR _ _ _ 22 Z8 _ 8 rfl hRow2.out Tryz.underlying22 rfl size8 rfl) rfl ?_
      exact FIN.out
    · have d1 : decide (num < 0) = false := by simp; omega
      have d2 : decide (4 < num) = true := by simpa using h1
      go_enter Tryz.func119, Tryz.ntmps119
      go_wp2_with (refine wpList_storeI rfl 22 (.tmp 6) (.tmp 27) rfl _ 22 Z8 Z8 8 rfl rfl I0.out.R size8 rfl rfl ?_)
      refine bodyPost_ret (v := _) (hR _ _ _ 22 Z8 _ 8 rfl hRow2.out Tryz.underlying22 rfl size8 rfl) rfl ?_
      exact FIN.out
  · have h0 : 0 ≤ num := by omega
    have h4 : num ≤ 4 := by omega
    have d1 : decide (num < 0) = false := by simp; omega
    have d2 : decide (4 < num) = false := by simp; omega
    have KA := hid (fun w1 => steady_any a w1 ha)
    have KB := hid (fun w1 => steady_any b w1 hb)
    have HA := hid ha
    have HB := hid hb
    clear h1 ha hb
    by_cases sa : steadyB a = true
    · rw [sa] at KA
      by_cases sb : steadyB b = true
      · rw [sb] at KB
        have hg : mixB a b num = true := by unfold mixB; rw [sa, sb]; simp; omega
        have FIN := hid (fun (w1 : World) (ys : List Int) => mix_good (w := w) (w' := w1) (ys := ys) hg)
        have SA := hid (fun i => steadyB_at sa i)
        have SB := hid (fun i => steadyB_at sb i)
        clear sa sb hg
        go_enter Tryz.func119, Tryz.ntmps119
        go_wp2_with (refine wpList_loadI rfl 22 (.tmp 3) rfl _ 22 a 8 _ rfl I0.out.A Tryz.underlying22 rfl size8 HA.out ?_)
        refine (KA.out _).mono ?_
        rintro e w1 ⟨rfl, hB1⟩
        have I1 := hid (I0.out.below hB1)
        clear hB1
        go_wp2_with (refine wpList_loadI rfl 22 (.tmp 4) rfl _ 22 b 8 _ rfl I1.out.B Tryz.underlying22 rfl size8 HB.out ?_)
        refine (KB.out _).mono ?_
        rintro e w2 ⟨rfl, hB2⟩
        have I2 := hid (I1.out.below hB2)
        have hl2 := I2.out.lt
        clear hB2 I1
        have I3 := hid (I2.out.below ((Below.refl _ _).alloc (Nat.le_refl _) (.cells (agi Z8) 22)))
        have O3 := hid (IB.new w2 22 Z8)
        rw [z8_eq] at I3 O3
        go_wp2
        go_loopw [28] (fun iv wr => ∃ (k : Nat) (ys : List Int), k ≤ 8 ∧ iv = .int .i64 k ∧ Hid (ys.length = 8 ∧ ∀ j, j < k → ys.getD j 0 = mixE a b num j) ∧ Hid (Bx3 w wr a b Z8) ∧ Hid (IB wr w2.heap.size 22 ys)) (fun iv _ => 8 - (intOf iv).toNat)
        case atStart => exact ⟨0, Z8, by omega, rfl, hid ⟨rfl, fun j h => by omega⟩, I3, O3⟩
        case round =>
          clear I3 O3 I2 I0 KA KB
          obtain ⟨k, ys, hk, rfl, HY, HI, HO⟩ := hrel
          by_cases hlt : k < 8
          · have ca := HI.out.A.cell k (by rw [HA.out]; exact hlt)
            have cb := HI.out.B.cell k (by rw [HB.out]; exact hlt)
            have ra := SA.out k
            have rb := SB.out k
            obtain ⟨x, hx⟩ : ∃ x, x = a.getD k 0 := ⟨_, rfl⟩
            obtain ⟨y, hy⟩ : ∃ y, y = b.getD k 0 := ⟨_, rfl⟩
            rw [← hx] at ca ra
            rw [← hy] at cb rb
            have HX := hid hx
            have HYY := hid hy
            clear hx hy
            obtain ⟨b1, b2⟩ := ra
            obtain ⟨b3, b4⟩ := rb
            obtain ⟨m1, m2, m3, m4⟩ := mix_sum ⟨b1, b2⟩ ⟨b3, b4⟩ ⟨h0, h4⟩
            go_wp2
            go_quiet (fail)
            obtain ⟨s, hs⟩ : ∃ s, s = x * (4 - num) + y * num := ⟨_, rfl⟩
            rw [← hs]
            have hs1 : -524288 ≤ s := by omega
            have hs2 : s ≤ 524288 := by omega
            have NEXT := hid (show Hid ((ys.set k (s.tdiv 4)).length = 8 ∧ ∀ j, j < k + 1 → (ys.set k (s.tdiv 4)).getD j 0 = mixE a b num j) from by
              obtain ⟨q1, q4⟩ := HY.out
              refine ⟨by simpa using q1, fun j hj => ?_⟩
              by_cases he : k = j
              · subst he
                rw [get_set_same _ _ _ (by omega), mixE, ← HX.out, ← HYY.out, hs]
              · rw [get_set_other _ _ he]
                exact q4 j (by omega))
            clear hs ca cb m1 m2 m3 m4
            have hls := HI.out.lt
            have hlo := Blk.lt HO.out
            go_wp2_with fail
            refine (whole_any _ s (by omega) (by omega)).mono ?_
            rintro e w3 ⟨b3, rfl, hb3, hI, hB⟩
            have Z3 := hid (IntBlk.below (IntBlk.new (wr.drewN _) (.bool false) (.slice none 0 0)) hB (Nat.le_refl _))
            have X3 := hid hI
            have B3 := hid (show Below wr.heap.size wr w3 from (below_dA wr _ _).trans (hB.mono (by simp)))
            clear hI hB
            go_wp2_with fail
            refine (NewInt_any _ 4 (by omega) (by omega)).mono ?_
            rintro e w4 ⟨b4, rfl, hb4, hI, hB⟩
            have X4 := hid (X3.out.below hB (Nat.le_refl _))
            have Y4 := hid hI
            have Z4 := hid (Z3.out.below hB (Nat.le_refl _))
            have B4 := hid (B3.out.trans (hB.mono B3.out.size))
            clear hI hB X3 Z3 B3
            go_wp2_with fail
            refine (Quo_any _ wr.heap.size b3 b4 s 4 Z4.out X4.out Y4.out (.inl (by omega)) (by omega) (sm_of_lt (by omega)) (sm_of_lt (by decide))).mono ?_
            rintro e w5 ⟨rfl, hI, hG⟩
            have Z5 := hid hI
            have B5 := hid (below_of_grownBy B4.out hG (Nat.le_refl _))
            have ht1 := tdiv_bound (x := s) (e := 4) (by omega)
            clear hI hG X4 Y4 Z4 B4
            go_wp2_with fail
            refine (Int64_any _ wr.heap.size (s.tdiv 4) Z5.out (by omega) (by omega)).mono ?_
            rintro e w6 ⟨rfl, rfl⟩
            have HI5 := hid (HI.out.below B5.out)
            have HO5 := hid (Blk.below' HO.out B5.out)
            have co := IB.cell HO5.out k (by rw [HY.out.1]; exact hlt)
            have fo := Blk.frozen HO5.out k
            have HI6 := hid (HI5.out.setCell (g := w2.heap.size) hl2 k (.int .i64 (s.tdiv 4)))
            have HO6 := hid (IB.set_ HO5.out k (s.tdiv 4))
            clear ht1 B5 Z5
            go_wp2
            go_roundw
            case rel => exact ⟨k + 1, _, by omega, by go_num, NEXT.out, HI6, HO6⟩
            case measure => simp [intOf] <;> omega
          · obtain rfl : k = 8 := by omega
            have F2 := hid (FIN.out (wr.setRow (w.heap.size + 1 + 1) (agi ys)) ys HY.out.1 HY.out.2 (below_setRow HI.out.bel (g := w.heap.size + 1 + 1) (by omega) (agi ys)))
            have hRow := hid (HI.out.R.setRow ys)
            clear hlt
            go_wp2_with (first
              | (refine wpList_loadI rfl 22 (.tmp 8) rfl _ 22 ys 8 _ rfl HO.out Tryz.underlying22 rfl size8 HY.out.1 ?_)
              | (refine wpList_storeI rfl 22 (.tmp 6) (.tmp 52) rfl _ 22 Z8 ys 8 rfl rfl HI.out.R size8 rfl HY.out.1 ?_))
            refine bodyPost_ret (v := _) (hR _ _ _ 22 ys _ 8 rfl hRow.out Tryz.underlying22 rfl size8 HY.out.1) rfl ?_
            exact F2.out
      · have sb' : steadyB b = false := by simpa using sb
        have sa' := sa
        rw [sb'] at KB
        have FIN := hid (fun (w1 : World) => mix_bad (w := w) (w' := w1) (a := a) (b := b) (num := num) (by unfold mixB; rw [sb']; simp))
        clear sa sb sb' sa'
        go_enter Tryz.func119, Tryz.ntmps119
        go_wp2_with (refine wpList_loadI rfl 22 (.tmp 3) rfl _ 22 a 8 _ rfl I0.out.A Tryz.underlying22 rfl size8 HA.out ?_)
        refine (KA.out _).mono ?_
        rintro e w1 ⟨rfl, hB1⟩
        have I1 := hid (I0.out.below hB1)
        clear hB1
        go_wp2_with (refine wpList_loadI rfl 22 (.tmp 4) rfl _ 22 b 8 _ rfl I1.out.B Tryz.underlying22 rfl size8 HB.out ?_)
        refine (KB.out _).mono ?_
        rintro e w2 ⟨rfl, hB2⟩
        have I2 := hid (I1.out.below hB2)
        have F2 := hid (FIN.out _ (below_setRow I2.out.bel (g := w.heap.size + 1 + 1) (by omega) (agi Z8)))
        have hRow := hid (I2.out.R.setRow Z8)
        clear hB2 I1
        go_wp2_with (refine wpList_storeI rfl 22 (.tmp 6) (.tmp 27) rfl _ 22 Z8 Z8 8 rfl rfl I2.out.R size8 rfl rfl ?_)
        refine bodyPost_ret (v := _) (hR _ _ _ 22 Z8 _ 8 rfl hRow.out Tryz.underlying22 rfl size8 rfl) rfl ?_
        exact F2.out
    · have sa' : steadyB a = false := by simpa using sa
      rw [sa'] at KA
      have FIN := hid (fun (w1 : World) => mix_bad (w := w) (w' := w1) (a := a) (b := b) (num := num) (by unfold mixB; rw [sa']; simp))
      clear sa sa'
      go_enter Tryz.func119, Tryz.ntmps119
      go_wp2_with (refine wpList_loadI rfl 22 (.tmp 3) rfl _ 22 a 8 _ rfl I0.out.A Tryz.underlying22 rfl size8 HA.out ?_)
      refine (KA.out _).mono ?_
      rintro e w1 ⟨rfl, hB1⟩
      have I1 := hid (I0.out.below hB1)
      have F2 := hid (FIN.out _ (below_setRow I1.out.bel (g := w.heap.size + 1 + 1) (by omega) (agi Z8)))
      have hRow := hid (I1.out.R.setRow Z8)
      clear hB1
      go_wp2_with (refine wpList_storeI rfl 22 (.tmp 6) (.tmp 27) rfl _ 22 Z8 Z8 8 rfl rfl I1.out.R size8 rfl rfl ?_)
      refine bodyPost_ret (v := _) (hR _ _ _ 22 Z8 _ 8 rfl hRow.out Tryz.underlying22 rfl size8 rfl) rfl ?_
      exact F2.out
end Go.Proofs.YthoiikkjjaldnaaGreatDoor

/- Two arrays of numbers that are the same. -/
namespace Go.Proofs.YthoiikkjjaldnaaGreatDoor
set_option linter.unusedVariables false
set_option linter.unusedSimpArgs false
set_option maxRecDepth 100000
open Go.RowKit

theorem run_equalIn_agi (d : Nat) {t : TypeId} {n : Nat} (ht : Tryz.prog.underlying t = some (.array n 3)) (xs : List Int) (hl : xs.length = n) (w : World) :
    (Op.equalIn (d + 2) t (.agg (agi xs)) (.agg (agi xs))).run Tryz.prog w = .ok true w := by
  have hs : ∀ w, (sizeOf 3).run Tryz.prog w = .ok 1 w := fun w => by kernel_rfl
  have ha : ∀ w, (isAgg 3).run Tryz.prog w = .ok false w := fun w => by kernel_rfl
  rw [Op.equalIn]
  simp only [Sem.run_bind, run_underlying ht, Result.andThen_ok, hs, Std.Legacy.Range.forIn_eq_forIn_range', Std.Legacy.Range.size, Nat.sub_zero, Nat.add_sub_cancel, Nat.div_one]
  have hl2 : ∀ i ∈ List.range' 0 n 1, i < n := fun i hi => by simpa using (List.mem_range'_1.1 hi).2
  generalize List.range' 0 n 1 = l at hl2 ⊢
  induction l with
  | nil => simp
  | cons i l ih =>
    have hi : i < n := hl2 i (by simp)
    have px : (part 3 (agi xs) (i * 1)).run Tryz.prog w = .ok (.int .i64 (xs.getD i 0)) w := by
      have hg := agi_get xs i (by omega)
      simp [part, ha, hg]
    have pe : (Op.equalIn (d + 1) 3 (.int .i64 (xs.getD i 0)) (.int .i64 (xs.getD i 0))).run Tryz.prog w = .ok true w := by
      rw [run_equalIn_int w d 3 .i64 .i64 _ _ Tryz.underlying3]
      simp
    simp only [List.forIn_cons, Sem.run_bind, px, pe, Result.andThen_ok]
    simp only [Bool.not_true, Bool.false_eq_true, if_false, Sem.run_pure, Result.andThen_ok]
    exact ih fun j hj => hl2 j (by simp [hj])

theorem run_eql_agi {t : TypeId} {n : Nat} (ht : Tryz.prog.underlying t = some (.array n 3)) (xs : List Int) (hl : xs.length = n) (w : World) :
    (binOp .eql t (.agg (agi xs)) (.agg (agi xs))).run Tryz.prog w = .ok (.bool true) w := by
  rw [run_eql_struct, run_equalIn_agi 9998 ht xs hl w]
  rfl

/-! An array laid into a new block. -/
theorem Blk.stored {w : World} {g : Nat} {t : TypeId} {cs c2 : Array Value} (h : Blk w g t cs) (o : Obj) : Blk ((w.alloc o).setRow w.heap.size c2) g t cs :=
  Blk.rowFar (Blk.alloc h o) (by have := Blk.lt h; omega)
theorem IB.stored (w : World) (t : TypeId) (zs ys : List Int) : IB ((w.alloc (.cells (agi zs) t)).setRow w.heap.size (agi ys)) w.heap.size t ys := (IB.new w t zs).setRow ys
theorem below_stored (w : World) (o : Obj) (c2 : Array Value) : Below w.heap.size w ((w.alloc o).setRow w.heap.size c2) :=
  below_setRow ((Below.refl _ w).alloc (Nat.le_refl _) o) (Nat.le_refl _) c2
end Go.Proofs.YthoiikkjjaldnaaGreatDoor

/- The walks of Expand, the program's and the reference's, and of the law LpcExpands. -/
namespace Go.Proofs.YthoiikkjjaldnaaGreatDoor
set_option linter.unusedVariables false
set_option linter.unusedSimpArgs false
set_option maxRecDepth 100000
open Go.RowKit

def Exps (w : World) (a : List Int) (g : Int) (e : Ending) (w' : World) : Prop := e = .returned (.tuple #[.agg (agi (exL a g)), .int .i64 (errOf (exB a g))]) ∧ Below w.heap.size w w'
theorem exp_bad {w w' : World} {a : List Int} {g : Int} (h : exB a g = false) (hB : Below w.heap.size w w') : Exps w a g (.returned (.tuple #[.agg (agi Z9), .int .i64 2])) w' := by
  refine ⟨?_, hB⟩
  unfold exL errOf
  rw [h]
  rfl
theorem exp_good {w w' : World} {a ys : List Int} {g : Int} (h : exB a g = true) (hl : ys.length = 9) (hy : ∀ j, j < 9 → ys.getD j 0 = exE a g j) (hB : Below w.heap.size w w') : Exps w a g (.returned (.tuple #[.agg (agi ys), .int .i64 0])) w' := by
  refine ⟨?_, hB⟩
  have e : ys = exL a g := by
    apply list_ext (by rw [hl, exL_len])
    intro j hj
    rw [hy j (by omega)]
    unfold exL
    rw [if_pos h, List.getD_eq_getElem?_getD, List.getElem?_map, List.getElem?_range (by omega)]
    rfl
  unfold errOf
  rw [h, e]
  rfl
theorem okA_yes {x : Int} (h1 : -1073741824 ≤ x) (h2 : x ≤ 1073741824) : okA x = true := by unfold okA; simp; omega
theorem okA_no {x : Int} (h : x < -1073741824 ∨ 1073741824 < x) : okA x = false := by unfold okA; simp; omega
theorem exB_g {a : List Int} {g : Int} (h : g < 0 ∨ 32768 < g) : exB a g = false := by unfold exB; simp; omega
theorem exB_a {a : List Int} {g : Int} {k : Nat} (hk : k < a.length) (h : a.getD k 0 < -1073741824 ∨ 1073741824 < a.getD k 0) : exB a g = false := by
  unfold exB; rw [all_no hk (okA_no h)]; simp
theorem exB_yes {a : List Int} {g : Int} (h0 : 0 ≤ g) (h1 : g ≤ 32768) (h : allTo okA a 9) (hl : a.length = 9) : exB a g = true := by
  unfold exB; rw [h.all (by omega)]; simp; omega
theorem ex_prod {x f : Int} (h1 : -1073741824 ≤ x) (h2 : x ≤ 1073741824) (h3 : 0 ≤ f) (h4 : f ≤ 32768) : -35184372088832 ≤ x * f ∧ x * f ≤ 35184372088832 := by
  have := mul_bound (x := x) (X := 1073741824) (y := f) (Y := 32768) (by omega) (by omega) ⟨by omega, by omega⟩ ⟨by omega, by omega⟩
  omega
theorem ex_fprod {f g : Int} (h1 : 0 ≤ f) (h2 : f ≤ 32768) (h3 : 0 ≤ g) (h4 : g ≤ 32768) : 0 ≤ f * g ∧ f * g ≤ 1073741824 := by
  have := mul_bound (x := f) (X := 32768) (y := g) (Y := 32768) (by omega) (by omega) ⟨by omega, by omega⟩ ⟨by omega, by omega⟩
  have := Int.mul_nonneg h1 h3
  omega

/-- The argument's box, the answer's, what lies below untouched. -/
structure Bx2 (t : TypeId) (w wr : World) (a r : List Int) : Prop where
  A : IB wr w.heap.size t a
  R : IB wr (w.heap.size + 1) 90 r
  bel : Below w.heap.size w wr
theorem Bx2.lt {t : TypeId} {w wr : World} {a r : List Int} (h : Bx2 t w wr a r) : w.heap.size + 1 < wr.heap.size := Blk.lt h.R
theorem Bx2.below {t : TypeId} {w wr wr' : World} {a r : List Int} (h : Bx2 t w wr a r) (hb : Below wr.heap.size wr wr') : Bx2 t w wr' a r :=
  ⟨Blk.below' h.A hb, Blk.below' h.R hb, h.bel.trans (hb.mono (by have := h.lt; omega))⟩
theorem Bx2.setCell {t : TypeId} {w wr : World} {a r : List Int} (h : Bx2 t w wr a r) {g : Nat} (hg : w.heap.size + 1 < g) (k : Nat) (v : Value) : Bx2 t w (wr.setCell ⟨g, k, none⟩ v) a r :=
  ⟨Blk.far h.A (by show w.heap.size ≠ g; omega) _, Blk.far h.R (by show w.heap.size + 1 ≠ g; omega) _, h.bel.setCell (p := ⟨g, k, none⟩) (by show w.heap.size ≤ g; omega) _⟩
theorem Bx2.setA {t : TypeId} {w wr : World} {a r : List Int} (h : Bx2 t w wr a r) (k : Nat) (v : Int) : Bx2 t w (wr.setCell ⟨w.heap.size, k, none⟩ (.int .i64 v)) (a.set k v) r :=
  ⟨IB.set_ h.A k v, Blk.far h.R (by show w.heap.size + 1 ≠ w.heap.size; omega) _, h.bel.setCell (p := ⟨w.heap.size, k, none⟩) (Nat.le_refl _) _⟩
theorem Bx2.drew {t : TypeId} {w wr : World} {a r : List Int} (h : Bx2 t w wr a r) : Bx2 t w wr.drew a r := ⟨h.A, h.R, h.bel.drew⟩
theorem Bx2.start (t : TypeId) (w : World) (a : List Int) : Bx2 t w ((w.alloc (.cells (agi a) t)).alloc (.cells (agi Z9) 90)) a Z9 := by
  have h1 := IB.new w t a
  have h2 := IB.new (w.alloc (.cells (agi a) t)) 90 Z9
  simp only [World.size_alloc] at h2
  exact ⟨Blk.alloc h1 _, h2, (((Below.refl _ _).alloc (Nat.le_refl _) _).alloc (by simp) _)⟩

set_option maxHeartbeats 4000000 in
theorem expand_any (a : List Int) (g : Int) (w : World) (ha : a.length = 9) : Calls Tryz.prog 138 #[.agg (agi a), .int .i64 g] w (Exps w a g) := by
  have I0 := hid (Bx2.start 90 w a)
  have hR := results_row2 (fn := Tryz.f138) (p := 4) (q := 5) (ty := 90) rfl
  have HA := hid ha
  by_cases h1 : g < 0 ∨ 32768 < g
  · have FIN := hid (exp_bad (a := a) (g := g) (exB_g h1) (below_setRow I0.out.bel (g := w.heap.size + 1) (by omega) (agi Z9)))
    have hRow2 := hid (I0.out.R.setRow Z9)
    clear ha
    rcases h1 with h1 | h1
    · have d1 : decide (g < 0) = true := by simpa using h1
      go_enter Tryz.func138, Tryz.ntmps138
      go_wp2_with (refine wpList_storeI rfl 90 (.tmp 4) (.tmp 14) rfl _ 90 Z9 Z9 9 rfl rfl I0.out.R size9 rfl rfl ?_)
      refine bodyPost_ret (v := _) (hR _ _ _ 90 Z9 _ 9 rfl hRow2.out Tryz.underlying90 rfl size9 rfl) rfl ?_
      exact FIN.out
    · have d1 : decide (g < 0) = false := by simp; omega
      have d2 : decide (32768 < g) = true := by simpa using h1
      go_enter Tryz.func138, Tryz.ntmps138
      go_wp2_with (refine wpList_storeI rfl 90 (.tmp 4) (.tmp 14) rfl _ 90 Z9 Z9 9 rfl rfl I0.out.R size9 rfl rfl ?_)
      refine bodyPost_ret (v := _) (hR _ _ _ 90 Z9 _ 9 rfl hRow2.out Tryz.underlying90 rfl size9 rfl) rfl ?_
      exact FIN.out
  · have h0 : 0 ≤ g := by omega
    have h4 : g ≤ 32768 := by omega
    have d1 : decide (g < 0) = false := by simp; omega
    have d2 : decide (32768 < g) = false := by simp; omega
    have FX := hid (fun k => exF_range h0 h4 k)
    rw [z9_eq] at I0
    clear h1 ha
    go_enter Tryz.func138, Tryz.ntmps138
    go_wp2
    go_loopw [6, 15] (fun fv iv wr => ∃ (k : Nat) (ys : List Int) (f : Int), k ≤ 9 ∧ iv = .int .i64 k ∧ fv = .int .i64 f ∧ Hid (f = exF g k ∧ ys.length = 9 ∧ allTo okA a k ∧ (∀ j, j < k → ys.getD j 0 = exE a g j) ∧ ∀ j, k ≤ j → ys.getD j 0 = a.getD j 0) ∧ Hid (Bx2 90 w wr ys Z9)) (fun _ iv _ => 9 - (intOf iv).toNat)
    case atStart => exact ⟨0, a, 32768, by omega, rfl, rfl, hid ⟨rfl, HA.out, allTo.zero, fun j h => by omega, fun j _ => rfl⟩, I0⟩
    case round =>
      clear I0
      obtain ⟨k, ys, f, hk, rfl, rfl, HY, HI⟩ := hrel
      obtain ⟨f0, f1⟩ := FX.out k
      rw [← HY.out.1] at f0 f1
      by_cases hlt : k < 9
      · have ca := HI.out.A.cell k (by rw [HY.out.2.1]; exact hlt)
        have fa := Blk.frozen HI.out.A k
        rw [HY.out.2.2.2.2 k (Nat.le_refl _)] at ca
        obtain ⟨x, hx⟩ : ∃ x, x = a.getD k 0 := ⟨_, rfl⟩
        rw [← hx] at ca
        have HX := hid hx
        clear hx
        by_cases hbad : x < -1073741824 ∨ 1073741824 < x
        · have FIN := hid (exp_bad (a := a) (g := g) (exB_a (k := k) (by rw [HA.out]; exact hlt) (by rw [← HX.out]; exact hbad)) (below_setRow HI.out.bel (g := w.heap.size + 1) (by omega) (agi Z9)))
          have hRow := hid (HI.out.R.setRow Z9)
          rcases hbad with b1 | b1
          · go_wp2_with (refine wpList_storeI rfl 90 (.tmp 4) (.tmp 28) rfl _ 90 Z9 Z9 9 rfl rfl HI.out.R size9 rfl rfl ?_)
            refine bodyPost_ret (v := _) (hR _ _ _ 90 Z9 _ 9 rfl hRow.out Tryz.underlying90 rfl size9 rfl) rfl ?_
            exact FIN.out
          · have b0 : ¬ x < -1073741824 := by omega
            go_wp2_with (refine wpList_storeI rfl 90 (.tmp 4) (.tmp 28) rfl _ 90 Z9 Z9 9 rfl rfl HI.out.R size9 rfl rfl ?_)
            refine bodyPost_ret (v := _) (hR _ _ _ 90 Z9 _ 9 rfl hRow.out Tryz.underlying90 rfl size9 rfl) rfl ?_
            exact FIN.out
        · have b1 : -1073741824 ≤ x := by omega
          have b2 : x ≤ 1073741824 := by omega
          obtain ⟨m1, m2⟩ := ex_prod b1 b2 f0 f1
          obtain ⟨m3, m4⟩ := ex_fprod f0 f1 h0 h4
          have NEXT := hid (show Hid ((f * g + 16384) / 32768 = exF g (k + 1) ∧ (ys.set k ((x * f + 16384) / 32768)).length = 9 ∧ allTo okA a (k + 1) ∧ (∀ j, j < k + 1 → (ys.set k ((x * f + 16384) / 32768)).getD j 0 = exE a g j) ∧ ∀ j, k + 1 ≤ j → (ys.set k ((x * f + 16384) / 32768)).getD j 0 = a.getD j 0) from by
            obtain ⟨q0, q1, q2, q3, q4⟩ := HY.out
            refine ⟨by rw [q0]; rfl, by simpa using q1, q2.succ (by rw [← HX.out]; exact okA_yes b1 b2), fun j hj => ?_, fun j hj => ?_⟩
            · by_cases he : k = j
              · subst he
                rw [get_set_same _ _ _ (by omega), exE, ← HX.out, ← q0]
              · rw [get_set_other _ _ he]
                exact q3 j (by omega)
            · rw [get_set_other _ _ (by omega)]
              exact q4 j (by omega))
          have NI := hid (HI.out.setA k ((x * f + 16384) / 32768))
          clear hbad
          go_wp2
          go_roundw
          case rel => exact ⟨k + 1, _, _, by omega, by go_num, rfl, NEXT.out, NI⟩
          case measure => simp [intOf] <;> omega
      · obtain rfl : k = 9 := by omega
        have hg := exB_yes h0 h4 HY.out.2.2.1 HA.out
        have FIN := hid (exp_good hg HY.out.2.1 HY.out.2.2.2.1 (below_setRow HI.out.bel (g := w.heap.size + 1) (by omega) (agi ys)))
        have hRow := hid (HI.out.R.setRow ys)
        clear hlt hg
        go_wp2_with (first
          | (refine wpList_loadI rfl 90 (.tmp 2) rfl _ 90 ys 9 _ rfl HI.out.A Tryz.underlying90 rfl size9 HY.out.2.1 ?_)
          | (refine wpList_storeI rfl 90 (.tmp 4) (.tmp 44) rfl _ 90 Z9 ys 9 rfl rfl HI.out.R size9 rfl HY.out.2.1 ?_))
        refine bodyPost_ret (v := _) (hR _ _ _ 90 ys _ 9 rfl hRow.out Tryz.underlying90 rfl size9 HY.out.2.1) rfl ?_
        exact FIN.out
end Go.Proofs.YthoiikkjjaldnaaGreatDoor

/- Plain facts on sums. No program in sight. -/
namespace Go.Proofs.YthoiikkjjaldnaaGreatDoor
set_option linter.unusedVariables false
set_option linter.unusedSimpArgs false
set_option maxRecDepth 100000

theorem sumN_add (f g : Nat → Int) (n : Nat) : sumN (fun i => f i + g i) n = sumN f n + sumN g n := by
  induction n with
  | zero => rfl
  | succ n ih => simp only [sumN]; rw [ih]; omega
theorem sumN_mul (c : Int) (f : Nat → Int) (n : Nat) : sumN (fun i => c * f i) n = c * sumN f n := by
  induction n with
  | zero => simp [sumN]
  | succ n ih => simp only [sumN]; rw [ih, Int.mul_add]
theorem sumN_zero (n : Nat) : sumN (fun _ => 0) n = 0 := by
  induction n with
  | zero => rfl
  | succ n ih => simp only [sumN]; rw [ih]; rfl
theorem sumN_swap (f : Nat → Nat → Int) (m n : Nat) : sumN (fun i => sumN (fun j => f i j) n) m = sumN (fun j => sumN (fun i => f i j) m) n := by
  induction m with
  | zero => simp only [sumN]; rw [sumN_zero]
  | succ m ih => simp only [sumN]; rw [ih, sumN_add]
theorem sumN_front (f : Nat → Int) (n : Nat) : sumN f (n + 1) = f 0 + sumN (fun i => f (i + 1)) n := by
  induction n with
  | zero => simp [sumN]
  | succ n ih => rw [sumN, ih]; simp only [sumN]; omega
theorem sumN_rev (f : Nat → Int) (n : Nat) : sumN f n = sumN (fun i => f (n - 1 - i)) n := by
  induction n with
  | zero => rfl
  | succ n ih =>
    rw [sumN_front (fun i => f (n + 1 - 1 - i)) n, sumN, ih]
    have e : sumN (fun i => f (n + 1 - 1 - (i + 1))) n = sumN (fun i => f (n - 1 - i)) n := sumN_congr n (fun i hi => by congr 1; omega)
    rw [e]
    simp only [Nat.add_sub_cancel, Nat.sub_zero]
    omega
theorem sumN_split (f : Nat → Int) (m n : Nat) : sumN f (m + n) = sumN f m + sumN (fun i => f (m + i)) n := by
  induction n with
  | zero => simp [sumN]
  | succ n ih => rw [← Nat.add_assoc, sumN, ih]; simp only [sumN]; omega
theorem sumN_head_zero (f : Nat → Int) (m n : Nat) (h : ∀ i, i < m → f i = 0) : sumN f (m + n) = sumN (fun i => f (m + i)) n := by
  rw [sumN_split, sumN_congr m (g := fun _ => 0) h, sumN_zero]; omega
end Go.Proofs.YthoiikkjjaldnaaGreatDoor

/- Plain facts on the filter that makes speech. No program in sight. -/
namespace Go.Proofs.YthoiikkjjaldnaaGreatDoor
set_option linter.unusedVariables false
set_option linter.unusedSimpArgs false
set_option maxRecDepth 100000

def okP1 (x : Int) : Bool := decide (-1048576 ≤ x ∧ x ≤ 1048576)
theorem okP1_yes {x : Int} (h1 : -1048576 ≤ x) (h2 : x ≤ 1048576) : okP1 x = true := by unfold okP1; simp; omega
theorem okP1_no {x : Int} (h : x < -1048576 ∨ 1048576 < x) : okP1 x = false := by unfold okP1; simp; omega
def okP (a : List Int) : Bool := a.all okP1
theorem okP_at {a : List Int} (h : okP a = true) (i : Nat) : -1048576 ≤ a.getD i 0 ∧ a.getD i 0 ≤ 1048576 := by
  by_cases hi : i < a.length
  · have := List.all_eq_true.mp h _ (List.getElem_mem hi)
    rw [List.getD_eq_getElem?_getD, List.getElem?_eq_getElem hi]
    unfold okP1 at this
    simpa using this
  · rw [List.getD_eq_getElem?_getD, List.getElem?_eq_none (by omega)]
    simp
def goodF (a p l : List Int) : Bool := okP a && (decide (a.getD 0 0 = 4096) && (all16 p && all16 l))

def gterm (a p : List Int) (i : Nat) : Int := a.getD (i + 1) 0 * p.getD i 0
theorem gterm_bound {a p : List Int} (ha : okP a = true) (hp : all16 p = true) (i : Nat) : -34359738368 ≤ gterm a p i ∧ gterm a p i ≤ 34359738368 := by
  have h1 := okP_at ha (i + 1)
  have h2 := all16_at hp i
  have := mul_bound (x := a.getD (i + 1) 0) (X := 1048576) (y := p.getD i 0) (Y := 32768) (by omega) (by omega) ⟨by omega, by omega⟩ ⟨by omega, by omega⟩
  unfold gterm
  omega
theorem gsum_bound {a p : List Int} (ha : okP a = true) (hp : all16 p = true) (n : Nat) : -(34359738368 * (n : Int)) ≤ sumN (gterm a p) n ∧ sumN (gterm a p) n ≤ 34359738368 * (n : Int) := by
  induction n with
  | zero => simp [sumN]
  | succ n ih =>
    have := gterm_bound ha hp n
    simp only [sumN]
    push_cast
    omega
def guessL (a p : List Int) : Int := (2048 + sumN (gterm a p) 8) / 4096
theorem guess_bound {a p : List Int} (ha : okP a = true) (hp : all16 p = true) : -1000000000 ≤ guessL a p ∧ guessL a p ≤ 1000000000 := by
  have := gsum_bound ha hp 8
  unfold guessL
  omega

def pushL (p : List Int) (x : Int) : List Int := x :: p.take 7
theorem pushL_len {p : List Int} (h : p.length = 8) (x : Int) : (pushL p x).length = 8 := by simp [pushL, h]
theorem all16_take {p : List Int} (h : all16 p = true) (n : Nat) : all16 (p.take n) = true := by
  unfold all16 at *
  rw [List.all_eq_true] at *
  intro x hx
  exact h x (List.mem_of_mem_take hx)
theorem all16_push {p : List Int} (h : all16 p = true) {x : Int} (hx : ok16 x = true) : all16 (pushL p x) = true := by
  have := all16_take h 7
  unfold all16 at *
  simp [pushL, hx, this]
theorem ok16_s16 (x : Int) : ok16 (s16 x) = true := by
  have := s16_range x
  exact ok16_yes (by omega) (by omega)

/-- The newest eight of numbers behind a past, the newest first. -/
def newL (p : List Int) : List Int → List Int
  | [] => p
  | x :: xs => newL (pushL p x) xs
theorem newL_len : ∀ (l p : List Int), p.length = 8 → (newL p l).length = 8
  | [], _, h => h
  | x :: xs, p, h => newL_len xs (pushL p x) (pushL_len h x)
theorem newL_snoc : ∀ (l p : List Int) (x : Int), newL p (l ++ [x]) = pushL (newL p l) x
  | [], _, _ => rfl
  | y :: ys, p, x => newL_snoc ys (pushL p y) x
theorem newL_all : ∀ (l p : List Int), all16 p = true → all16 l = true → all16 (newL p l) = true
  | [], _, h, _ => h
  | x :: xs, p, h, hl => by
    have h2 : ok16 x = true ∧ all16 xs = true := by simpa [all16] using hl
    exact newL_all xs (pushL p x) (all16_push h h2.1) h2.2
theorem pushL_get {p : List Int} (x : Int) (i : Nat) (hi : i < 8) : (pushL p x).getD i 0 = if i = 0 then x else p.getD (i - 1) 0 := by
  rcases i with _ | i
  · simp [pushL]
  · have h7 : i < 7 := by omega
    simp [pushL, h7]
/-- The reference's row. -/
def newAt (p l : List Int) (i : Nat) : Int := if i < l.length then l.getD (l.length - 1 - i) 0 else p.getD (i - l.length) 0
theorem newAt_snoc (p l : List Int) (x : Int) (i : Nat) : newAt p (l ++ [x]) i = if i = 0 then x else newAt p l (i - 1) := by
  unfold newAt
  rcases i with _ | i
  · simp
  · simp only [List.length_append, List.length_singleton, Nat.add_sub_cancel, Nat.succ_ne_zero, if_false]
    by_cases h : i < l.length
    · rw [if_pos (by omega), if_pos h]
      have e : l.length - (i + 1) = l.length - 1 - i := by omega
      rw [e, List.getD_eq_getElem?_getD, List.getD_eq_getElem?_getD, List.getElem?_append_left (by omega)]
    · rw [if_neg (by omega), if_neg h]
      congr 1
      omega
theorem newL_get (p : List Int) (l : List Int) : ∀ i, i < 8 → (newL p l).getD i 0 = newAt p l i := by
  induction hl : l.length generalizing l with
  | zero =>
    intro i _
    obtain rfl : l = [] := List.eq_nil_of_length_eq_zero hl
    simp [newL, newAt]
  | succ n ih =>
    intro i hi
    have hne : l ≠ [] := by intro h; simp [h] at hl
    obtain ⟨m, x, rfl⟩ : ∃ m x, l = m ++ [x] := ⟨l.dropLast, l.getLast hne, (List.dropLast_concat_getLast hne).symm⟩
    rw [newL_snoc, newAt_snoc, pushL_get _ _ hi]
    split
    · rfl
    · exact ih m (by simpa using hl) (i - 1) (by omega)
theorem newL_range {p l : List Int} (hp : p.length = 8) : newL p l = (List.range 8).map (newAt p l) := by
  refine list_ext (by rw [newL_len _ _ hp]; simp) fun k hk => ?_
  rw [newL_len _ _ hp] at hk
  rw [newL_get p l k hk]
  simp [hk]

/-- The samples of an excitation. -/
def makeN (a p e : List Int) : Nat → List Int
  | 0 => []
  | n + 1 => makeN a p e n ++ [s16 (e.getD n 0 - guessL a (newL p (makeN a p e n)))]
theorem makeN_len (a p e : List Int) (n : Nat) : (makeN a p e n).length = n := by
  induction n with
  | zero => rfl
  | succ n ih => simp [makeN, ih]
theorem makeN_all (a p e : List Int) (n : Nat) : all16 (makeN a p e n) = true := by
  induction n with
  | zero => rfl
  | succ n ih =>
    unfold all16 at *
    simp [makeN, ih, ok16_s16]
/-- The excitation of samples. -/
def undoN (a p l : List Int) : Nat → List Int
  | 0 => []
  | n + 1 => undoN a p l n ++ [s16 (l.getD n 0 + guessL a (newL p (l.take n)))]
theorem undoN_len (a p e : List Int) (n : Nat) : (undoN a p e n).length = n := by
  induction n with
  | zero => rfl
  | succ n ih => simp [undoN, ih]
theorem take_snoc {l : List Int} {n : Nat} (h : n < l.length) : l.take (n + 1) = l.take n ++ [l.getD n 0] := by
  rw [List.take_add_one, List.getElem?_eq_getElem h]
  simp [List.getD_eq_getElem?_getD, List.getElem?_eq_getElem h]
end Go.Proofs.YthoiikkjjaldnaaGreatDoor

/- Plain facts on the frame that is lost. -/
namespace Go.Proofs.YthoiikkjjaldnaaGreatDoor
set_option linter.unusedVariables false
set_option linter.unusedSimpArgs false
set_option maxRecDepth 100000
open Go.RowKit

def eraA (m : Mm) : List Int := exL (dirL m.r) 32440
def playY (a p x : List Int) : List Int := if goodF a p x then makeN a p x x.length else []
def playP (a p x : List Int) : List Int := if goodF a p x then newL p (makeN a p x x.length) else Z8
def stM (a : List Int) (m : Mm) (s : Int) : Mm := { eraR m s with p := playP a (eraR m s).p (eraY m s) }
def stY (a : List Int) (m : Mm) (s : Int) : List Int := playY a (eraR m s).p (eraY m s)
def coM (m : Mm) : Mm := if goodM m then stM (eraA m) (stM (eraA m) m 0) 1 else zeroM
def coY (m : Mm) : List Int := if goodM m then stY (eraA m) m 0 ++ stY (eraA m) (stM (eraA m) m 0) 1 else []
theorem playP_len {a p x : List Int} (hp : p.length = 8) : (playP a p x).length = 8 := by
  unfold playP
  split
  · exact newL_len _ _ hp
  · rfl
theorem playY_len (a p x : List Int) : (playY a p x).length ≤ x.length := by
  unfold playY
  split
  · rw [makeN_len]; exact Nat.le_refl _
  · simp
theorem stM_ok {m : Mm} (k : m.ok) (a : List Int) (s : Int) : (stM a m s).ok := ⟨(eraR_ok k s).r, playP_len (eraR_ok k s).p, (eraR_ok k s).e⟩
theorem stY_len (a : List Int) (m : Mm) (s : Int) : (stY a m s).length ≤ 40 := Nat.le_trans (playY_len _ _ _) (eraY_len m s)
theorem coM_ok {m : Mm} (k : m.ok) : (coM m).ok := by
  unfold coM
  split
  · exact stM_ok (stM_ok k _ _) _ _
  · exact zeroM_ok
theorem coY_len (m : Mm) : (coY m).length ≤ 80 := by
  unfold coY
  split
  · have h1 := stY_len (eraA m) m 0
    have h2 := stY_len (eraA m) (stM (eraA m) m 0) 1
    rw [List.length_append]
    omega
  · simp
theorem playP_64 (a p x : List Int) : W64 (playP a p x) := by
  unfold playP
  split
  · next h =>
    have h' : okP a = true ∧ a.getD 0 0 = 4096 ∧ all16 p = true ∧ all16 x = true := by simpa [goodF] using h
    exact w64_of16 (newL_all _ _ h'.2.2.1 (makeN_all _ _ _ _))
  · intro y hy
    have : y = 0 := by simpa [Z8] using hy
    omega
theorem keepL_64 {h x : List Int} (hw : W64 h) : W64 (keepL h x) := fun y hy => by
  unfold keepL at hy
  rcases List.mem_append.1 hy with h1 | h1
  · exact hw y (List.mem_of_mem_drop h1)
  · obtain ⟨z, _, rfl⟩ := List.mem_map.1 h1
    have := s16_range z
    omega
theorem w64_parts {m : Mm} : W64 m.nums ↔ W64 m.r ∧ W64 m.p ∧ W64 m.e ∧ W64 [m.ga, m.pi, m.la, m.er, m.se] := by
  unfold Mm.nums W64
  simp only [List.mem_append]
  constructor
  · intro h
    exact ⟨fun x hx => h x (.inl hx), fun x hx => h x (.inr (.inl hx)), fun x hx => h x (.inr (.inr (.inl hx))), fun x hx => h x (.inr (.inr (.inr hx)))⟩
  · rintro ⟨h1, h2, h3, h4⟩ x (hx | hx | hx | hx)
    · exact h1 x hx
    · exact h2 x hx
    · exact h3 x hx
    · exact h4 x hx
theorem w64_zeros (n : Nat) : W64 (List.replicate n 0) := fun x hx => by
  have := (List.mem_replicate.1 hx).2
  omega
theorem eraR_64 {m : Mm} (hw : W64 m.nums) (s : Int) : W64 (eraR m s).nums := by
  unfold eraR
  split
  · obtain ⟨h1, h2, h3, h4⟩ := w64_parts.1 hw
    have hga := h4 m.ga (by simp)
    have hpi := h4 m.pi (by simp)
    have hla := h4 m.la (by simp)
    have her := h4 m.er (by simp)
    have hse := h4 m.se (by simp)
    refine w64_parts.2 ⟨h1, h2, keepL_64 h3, fun x hx => ?_⟩
    have e1 := nzE_range hse.1 hse.2 40
    have e2 : -9223372036854775808 ≤ er1 m s ∧ er1 m s ≤ 9223372036854775807 := by unfold er1; split <;> omega
    have hx' : x = m.ga ∨ x = m.pi ∨ x = m.la ∨ x = er1 m s ∨ x = nzE m.se 40 := by
      have := hx
      simp only [List.mem_cons, List.not_mem_nil, or_false] at this
      exact this
    rcases hx' with rfl | rfl | rfl | rfl | rfl
    · exact hga
    · exact hpi
    · exact hla
    · exact e2
    · exact e1
  · exact w64_parts.2 ⟨w64_zeros 8, w64_zeros 8, w64_zeros 80, fun x hx => by
      have : x = 0 := by simpa [zeroM] using hx
      omega⟩
theorem stM_64 {m : Mm} (hw : W64 m.nums) (a : List Int) (s : Int) : W64 (stM a m s).nums := by
  obtain ⟨h1, _, h3, h4⟩ := w64_parts.1 (eraR_64 hw s)
  exact w64_parts.2 ⟨h1, playP_64 _ _ _, h3, h4⟩
/-! The first memory's answer has eighty samples. -/
theorem keepL_in {h x : List Int} (hh : all16 h = true) : all16 (keepL h x) = true := by
  unfold all16 keepL at *
  rw [List.all_eq_true] at hh ⊢
  intro y hy
  rcases List.mem_append.1 hy with h1 | h1
  · exact hh y (List.mem_of_mem_drop h1)
  · obtain ⟨z, _, rfl⟩ := List.mem_map.1 h1
    have := s16_range z
    exact ok16_yes this.1 this.2
theorem mxL_in' (m : Mm) : all16 (eraX m) = true := mxL_in _ _ _ _ _
theorem coY_fresh : (coY freshM).length = 80 := by
  have g0 : goodM freshM = true := by decide
  obtain ⟨a, ha⟩ : ∃ a, a = eraA freshM := ⟨_, rfl⟩
  have ga : okP a = true ∧ a.getD 0 0 = 4096 := by rw [ha]; decide
  have b0 : eraB freshM 0 = true := by decide
  have r0 : eraR freshM 0 = eraN (eraP freshM 0) := by unfold eraR; rw [if_pos b0]
  have y0 : eraY freshM 0 = eraX (eraP freshM 0) := by unfold eraY; rw [if_pos b0]
  have l0 : (eraX (eraP freshM 0)).length = 40 := eraX_len (m := eraP freshM 0) ⟨by decide, by decide⟩
  have i0 : all16 (eraX (eraP freshM 0)) = true := mxL_in _ _ _ _ _
  have p0 : all16 (eraR freshM 0).p = true := by rw [r0]; decide
  have f0 : goodF a (eraR freshM 0).p (eraY freshM 0) = true := by unfold goodF; rw [y0, i0, p0, ga.1, ga.2]; rfl
  have n0 : (stY a freshM 0).length = 40 := by unfold stY playY; rw [if_pos f0, makeN_len, y0, l0]
  obtain ⟨m1, hm1⟩ : ∃ m1, m1 = stM a freshM 0 := ⟨_, rfl⟩
  have q1 : all16 m1.p = true := by
    rw [hm1]
    show all16 (playP a (eraR freshM 0).p (eraY freshM 0)) = true
    unfold playP
    rw [if_pos f0]
    exact newL_all _ _ p0 (makeN_all _ _ _ _)
  have e1 : all16 m1.e = true := by
    rw [hm1]
    show all16 (eraR freshM 0).e = true
    rw [r0]
    exact keepL_in (by decide)
  have t1 : tailM m1 := by
    rw [hm1]
    show tailM { eraR freshM 0 with p := _ }
    rw [r0]
    have hs : 0 ≤ nzE 21845 40 ∧ nzE 21845 40 < 65536 := by
      have := nzS_range (nzE 21845 39)
      rw [show (40 : Nat) = 39 + 1 from rfl, nzE_succ]
      omega
    exact ⟨⟨(by decide : (20 : Int) ≤ 20), (by decide : (20 : Int) ≤ 79)⟩, hs, ⟨(by decide : (0 : Int) ≤ 0), (by decide : (0 : Int) ≤ 32767)⟩, ⟨(by decide : (0 : Int) ≤ 0), (by decide : (0 : Int) ≤ 18022)⟩, (by decide : (0 : Int) ≤ 1), (by decide : (1 : Int) ≤ 6)⟩
  have r1 : m1.r.all okK = true := by
    rw [hm1]
    show (eraR freshM 0).r.all okK = true
    rw [r0]; decide
  have g1 : goodM m1 = true := goodM_yes r1 q1 e1 t1
  have b1 : eraB m1 1 = true := by unfold eraB; rw [g1]; decide
  have r2 : eraR m1 1 = eraN (eraP m1 1) := by unfold eraR; rw [if_pos b1]
  have y1 : eraY m1 1 = eraX (eraP m1 1) := by unfold eraY; rw [if_pos b1]
  have l1 : (eraX (eraP m1 1)).length = 40 := eraX_len (m := eraP m1 1) t1.1
  have f1 : goodF a (eraR m1 1).p (eraY m1 1) = true := by
    have : all16 (eraR m1 1).p = true := by rw [r2]; exact q1
    unfold goodF
    rw [y1, mxL_in', this, ga.1, ga.2]; rfl
  have n1 : (stY a m1 1).length = 40 := by unfold stY playY; rw [if_pos f1, makeN_len, y1, l1]
  unfold coY
  rw [if_pos g0, ← ha, List.length_append, n0, ← hm1, n1]
end Go.Proofs.YthoiikkjjaldnaaGreatDoor

/- The walks of the pitch gains: the table's number, or the error. -/
namespace Go.Proofs.YthoiikkjjaldnaaGreatDoor
set_option linter.unusedVariables false
set_option linter.unusedSimpArgs false
set_option maxRecDepth 100000
open Go.RowKit

def gainB (n : Int) : Bool := decide (0 ≤ n ∧ n ≤ 7)
def gainV (n : Int) : Int := if gainB n then gainsL.getD n.toNat 0 else 0
theorem gainB_yes {n : Int} (h1 : 0 ≤ n) (h2 : n ≤ 7) : gainB n = true := by unfold gainB; simp; omega
theorem gainB_no {n : Int} (h : n < 0 ∨ 7 < n) : gainB n = false := by unfold gainB; simp; omega

set_option maxHeartbeats 1000000 in
theorem pitchGain_any (n : Int) (w : World) (T : TabA w 2 gainsL) :
    Calls Tryz.prog 97 #[.int .i64 n] w fun e w' => e = .returned (.tuple #[.int .i64 (gainV n), .int .i64 (errOf (gainB n))]) ∧ w = w' := by
  by_cases h1 : n < 0 ∨ 7 < n
  · rw [show gainV n = 0 from by unfold gainV; rw [gainB_no h1]; rfl, gainB_no h1]
    rcases h1 with h1 | h1
    · go_enter Tryz.func97, Tryz.ntmps97
      go_wp2
      go_ret2
      exact ⟨rfl, rfl⟩
    · have h2 : ¬ n < 0 := by omega
      have h3 : 8 ≤ n := by omega
      go_enter Tryz.func97, Tryz.ntmps97
      go_wp2
      go_ret2
      exact ⟨rfl, rfl⟩
  · obtain ⟨k, rfl⟩ := Int.eq_ofNat_of_zero_le (show 0 ≤ n by omega)
    have hk : k < 8 := by omega
    have hc := T.cell k hk
    rw [show gainV (k : Nat) = gainsL.getD k 0 from by unfold gainV; rw [gainB_yes (by omega) (by omega)]; rfl, gainB_yes (by omega) (by omega)]
    generalize gainsL.getD k 0 = v at *
    clear h1 T
    go_enter Tryz.func97, Tryz.ntmps97
    go_wp2
    go_ret2
    exact ⟨rfl, rfl⟩

set_option maxHeartbeats 1000000 in
theorem refGain_any (n : Int) (w : World) (T : TabS w 1 gainsL) :
    Calls Tryz.prog 132 #[.int .i64 n] w fun e w' => e = .returned (.tuple #[.int .i64 (gainV n), .int .i64 (errOf (gainB n))]) ∧ w = w' := by
  by_cases h1 : n < 0 ∨ 7 < n
  · rw [show gainV n = 0 from by unfold gainV; rw [gainB_no h1]; rfl, gainB_no h1]
    rcases h1 with h1 | h1
    · go_enter Tryz.func132, Tryz.ntmps132
      go_wp2
      go_ret2
      exact ⟨rfl, rfl⟩
    · have h2 : ¬ n < 0 := by omega
      go_enter Tryz.func132, Tryz.ntmps132
      go_wp2
      go_ret2
      exact ⟨rfl, rfl⟩
  · obtain ⟨k, rfl⟩ := Int.eq_ofNat_of_zero_le (show 0 ≤ n by omega)
    have hk : k < 8 := by omega
    obtain ⟨A, c, h0, hlen, hc⟩ := T.form
    obtain ⟨ad, rfl, hc⟩ := hc k hk
    have h0 : w.cell? ⟨1, 0, none⟩ = some (.slice (some ad) 8 c) := h0
    rw [show gainV (k : Nat) = gainsL.getD k 0 from by unfold gainV; rw [gainB_yes (by omega) (by omega)]; rfl, gainB_yes (by omega) (by omega)]
    generalize gainsL.getD k 0 = v at *
    clear h1 T hlen
    go_enter Tryz.func132, Tryz.ntmps132
    go_wp2
    go_ret2
    exact ⟨rfl, rfl⟩

end Go.Proofs.YthoiikkjjaldnaaGreatDoor

/- A number's last bit. -/
namespace Go.Proofs.YthoiikkjjaldnaaGreatDoor
set_option linter.unusedVariables false
set_option linter.unusedSimpArgs false
set_option maxRecDepth 100000
open Go.RowKit

theorem and1 (x : Int) : bits BinOp.and IntKind.i64 x 1 = x % 2 := by
  have h : (BitVec.ofInt 64 x &&& BitVec.ofInt 64 1).toNat = (x % 2).toNat := by
    rw [BitVec.toNat_and, BitVec.toNat_ofInt, show (BitVec.ofInt 64 1).toNat = 2 ^ 1 - 1 from by decide, Nat.and_two_pow_sub_one_eq_mod]
    omega
  show IntKind.i64.wrap ((BitVec.ofInt 64 x &&& BitVec.ofInt 64 1).toNat : Int) = _
  rw [h, IntKind.wrap_i64]
  omega
end Go.Proofs.YthoiikkjjaldnaaGreatDoor

/- The walks of a power of two and of a gain's level. -/
namespace Go.Proofs.YthoiikkjjaldnaaGreatDoor
set_option linter.unusedVariables false
set_option linter.unusedSimpArgs false
set_option maxRecDepth 100000
open Go.RowKit

def powR (k : Nat) : Int := rootsL.getD k 0
def powBit (f : Int) (k : Nat) : Bool := decide (f / 2 ^ (14 - k) % 2 = 1)
def powX (f : Int) : Nat → Int
  | 0 => 1073741824
  | k + 1 => if powBit f k then powX f k + powX f k * powR k / 1073741824 else powX f k
def powU : Nat → Int
  | 0 => 1073741824
  | k + 1 => powU k + powU k * powR k / 1073741824
def powB (n f : Int) : Bool := decide ((0 ≤ n ∧ n ≤ 30) ∧ 0 ≤ f ∧ f ≤ 32767)
def powV (n f : Int) : Int := if powB n f then (if 2147483647 ≤ powX f 15 / 2 ^ (30 - n).toNat then 2147483647 else powX f 15 / 2 ^ (30 - n).toNat) else 0
theorem powR_nn (k : Nat) : 0 ≤ powR k := by
  unfold powR
  by_cases h : k < 15
  · have : ∀ j, j < 15 → 0 ≤ rootsL.getD j 0 := by decide
    exact this k h
  · rw [List.getD_eq_getElem?_getD, List.getElem?_eq_none (by simp [rootsL]; omega)]; simp
theorem powR_le (k : Nat) : powR k ≤ 444758425 := by
  unfold powR
  by_cases h : k < 15
  · have : ∀ j, j < 15 → rootsL.getD j 0 ≤ 444758425 := by decide
    exact this k h
  · rw [List.getD_eq_getElem?_getD, List.getElem?_eq_none (by simp [rootsL]; omega)]; simp
theorem powU_le : ∀ k, k < 16 → powU k ≤ 2147483648 := by decide
theorem powX_lo (f : Int) (k : Nat) : 1073741824 ≤ powX f k := by
  induction k with
  | zero => simp [powX]
  | succ k ih =>
    unfold powX
    split
    · have h1 : 0 ≤ powX f k * powR k := Int.mul_nonneg (by omega) (powR_nn k)
      have h2 : 0 ≤ powX f k * powR k / 1073741824 := Int.ediv_nonneg h1 (by omega)
      omega
    · exact ih
theorem powX_U (f : Int) (k : Nat) : powX f k ≤ powU k := by
  induction k with
  | zero => simp [powX, powU]
  | succ k ih =>
    have h0 := powX_lo f k
    have h1 : powX f k * powR k ≤ powU k * powR k := Int.mul_le_mul_of_nonneg_right ih (powR_nn k)
    have h2 : powX f k * powR k / 1073741824 ≤ powU k * powR k / 1073741824 := Int.ediv_le_ediv (by omega) h1
    have h3 : 0 ≤ powU k * powR k / 1073741824 := Int.ediv_nonneg (Int.mul_nonneg (by omega) (powR_nn k)) (by omega)
    unfold powX powU
    split <;> omega
theorem powX_hi (f : Int) {k : Nat} (h : k < 16) : powX f k ≤ 2147483648 := Int.le_trans (powX_U f k) (powU_le k h)
/-- One round's product. -/
theorem pow_step {x r : Int} (h1 : 1073741824 ≤ x) (h2 : x ≤ 2147483648) (h3 : 0 ≤ r) (h4 : r ≤ 444758425) : 0 ≤ x * r ∧ x * r ≤ 955124478797414400 ∧ 0 ≤ x * r / 1073741824 ∧ x * r / 1073741824 ≤ 889516850 := by
  have h5 : x * r ≤ 2147483648 * 444758425 := Int.mul_le_mul h2 h4 h3 (by omega)
  have h6 : 0 ≤ x * r := Int.mul_nonneg (by omega) h3
  omega

theorem ret2i {a b c : Int} (h : a = b) : Ending.returned (.tuple #[.int .i64 a, .int .i64 c]) = .returned (.tuple #[.int .i64 b, .int .i64 c]) := by rw [h]

set_option maxHeartbeats 2000000 in
theorem dualPow_in (n f : Int) (w : World) (T : TabA w 4 rootsL) (n1 : 0 ≤ n) (n2 : n ≤ 30) (f1 : 0 ≤ f) (f2 : f ≤ 32767) :
    Calls Tryz.prog 168 #[.int .i64 n, .int .i64 f] w fun e w' => e = .returned (.tuple #[.int .i64 (powV n f), .int .i64 0]) ∧ w = w' := by
  have d1 : ¬ n < 0 := by omega
  have d2 : ¬ 30 < n := by omega
  have d3 : ¬ f < 0 := by omega
  have d4 : ¬ 32767 < f := by omega
  have size15 : (Tryz.prog.info? 204).map (·.size) = some 15 := by kernel_rfl
  have HIX := hid (fun (k : Nat) (hk : k < 15) (w : World) => run_index_agi Tryz.underlying204 rootsL rfl k hk w)
  have TT := hid T
  have S15 := hid size15
  clear T size15
  go_enter Tryz.func168, Tryz.ntmps168
  go_wp2_with (refine wpList_loadT rfl 204 (.global 4) rfl _ rootsL 15 _ rfl TT.out Tryz.underlying204 rfl S15.out rfl ?_)
  go_loop [6, 24] (fun xv iv => ∃ (k : Nat) (x : Int), k ≤ 15 ∧ iv = .int .i64 k ∧ xv = .int .i64 x ∧ Hid (x = powX f k)) (fun _ iv => 15 - (intOf iv).toNat)
  case atStart => exact ⟨0, 1073741824, by omega, rfl, rfl, hid rfl⟩
  case round =>
    obtain ⟨k, x, hk, rfl, rfl, HX⟩ := hrel
    by_cases hlt : k < 15
    · have hix := HIX.out k hlt
      have x1 : 1073741824 ≤ x := by rw [HX.out]; exact powX_lo f k
      have x2 : x ≤ 2147483648 := by rw [HX.out]; exact powX_hi f (by omega)
      have r1 := powR_nn k
      have r2 := powR_le k
      have HR := hid (show powX f (k + 1) = if powBit f k then x + x * powR k / 1073741824 else x by rw [powX, ← HX.out])
      unfold powR at r1 r2 HR
      generalize rootsL.getD k 0 = r at *
      obtain ⟨q1, q2, q3, q4⟩ := pow_step x1 x2 r1 r2
      have HA := and1 (f / 2 ^ (14 - k))
      by_cases hb : f / 2 ^ (14 - k) % 2 = 1
      · have e1 : (bits BinOp.and IntKind.i64 (f / 2 ^ (14 - k)) 1 == 1) = true := by rw [HA, hb]; rfl
        have HR2 := hid (show powX f (k + 1) = x + x * r / 1073741824 by rw [HR.out, if_pos (by unfold powBit; simpa using hb)])
        clear HA hb HR
        go_wp2
        go_round
        case rel => exact ⟨k + 1, _, by omega, by go_num, rfl, hid HR2.out.symm⟩
        case measure => simp [intOf] <;> omega
      · have e1 : (bits BinOp.and IntKind.i64 (f / 2 ^ (14 - k)) 1 == 1) = false := by rw [HA]; simpa using hb
        have HR2 := hid (show powX f (k + 1) = x by rw [HR.out, if_neg (by unfold powBit; simpa using hb)])
        clear HA hb HR
        go_wp2
        go_round
        case rel => exact ⟨k + 1, _, by omega, by go_num, rfl, hid HR2.out.symm⟩
        case measure => simp [intOf] <;> omega
    · obtain rfl : k = 15 := by omega
      obtain ⟨m, rfl⟩ := Int.eq_ofNat_of_zero_le n1
      have x1 : 1073741824 ≤ x := by rw [HX.out]; exact powX_lo f 15
      have x2 : x ≤ 2147483648 := by rw [HX.out]; exact powX_hi f (by omega)
      have HV := hid (show powV (m : Nat) f = (if 2147483647 ≤ x / 2 ^ (30 - m) then 2147483647 else x / 2 ^ (30 - m)) by
        unfold powV
        rw [if_pos (by unfold powB; simp; omega), ← HX.out, show ((30 : Int) - (m : Nat)).toNat = 30 - m by omega])
      clear HX hlt
      obtain ⟨p, hp⟩ : ∃ p, p = x / 2 ^ (30 - m) := ⟨_, rfl⟩
      rw [← hp] at HV
      by_cases hc : 2147483647 ≤ p
      · have HV2 := hid (show powV (m : Nat) f = 2147483647 by rw [HV.out, if_pos hc])
        have g1 : 2147483647 ≤ x / 2 ^ (30 - m) := by rw [← hp]; exact hc
        clear hp HV hc
        go_wp2
        all_goals
          go_ret2
          exact ⟨by rw [HV2.out]; first | rfl | exact ret2i (a := x / 2 ^ (30 - m)) (by omega), rfl⟩
      · have HV2 := hid (show powV (m : Nat) f = x / 2 ^ (30 - m) by rw [HV.out, if_neg hc, hp])
        have g1 : x / 2 ^ (30 - m) < 2147483647 := by omega
        clear hp HV hc
        go_wp2
        all_goals
          go_ret2
          exact ⟨by rw [HV2.out]; first | rfl | exact ret2i (a := x / 2 ^ (30 - m)) (by omega), rfl⟩

set_option maxHeartbeats 1000000 in
theorem dualPow_any (n f : Int) (w : World) (T : TabA w 4 rootsL) :
    Calls Tryz.prog 168 #[.int .i64 n, .int .i64 f] w fun e w' => e = .returned (.tuple #[.int .i64 (powV n f), .int .i64 (errOf (powB n f))]) ∧ w = w' := by
  by_cases h : (0 ≤ n ∧ n ≤ 30) ∧ 0 ≤ f ∧ f ≤ 32767
  · have hb : powB n f = true := by unfold powB; simpa using h
    rw [hb]
    exact dualPow_in n f w T h.1.1 h.1.2 h.2.1 h.2.2
  · have hb : powB n f = false := by unfold powB; simpa using h
    have hv : powV n f = 0 := by unfold powV; rw [hb]; rfl
    rw [hb, hv]
    clear hb hv T
    by_cases h1 : n < 0
    · clear h
      go_enter Tryz.func168, Tryz.ntmps168
      go_wp2
      go_ret2
      exact ⟨rfl, rfl⟩
    by_cases h2 : 30 < n
    · clear h
      go_enter Tryz.func168, Tryz.ntmps168
      go_wp2
      go_ret2
      exact ⟨rfl, rfl⟩
    by_cases h3 : f < 0
    · clear h
      go_enter Tryz.func168, Tryz.ntmps168
      go_wp2
      go_ret2
      exact ⟨rfl, rfl⟩
    have h4 : 32767 < f := by omega
    clear h
    go_enter Tryz.func168, Tryz.ntmps168
    go_wp2
    go_ret2
    exact ⟨rfl, rfl⟩

/-! The level of a gain. -/
def glB (n : Int) : Bool := decide (0 ≤ n ∧ n ≤ 31)
def glV (n : Int) : Int := if glB n then powV ((24 + 3 * n) / 8) ((24 + 3 * n) % 8 * 4096) else 0
theorem powB_gl {n : Int} (h1 : 0 ≤ n) (h2 : n ≤ 31) : powB ((24 + 3 * n) / 8) ((24 + 3 * n) % 8 * 4096) = true := by
  unfold powB
  simp
  omega
theorem glB_yes {n : Int} (h1 : 0 ≤ n) (h2 : n ≤ 31) : glB n = true := by unfold glB; simp; omega
theorem glB_no {n : Int} (h : n < 0 ∨ 31 < n) : glB n = false := by unfold glB; simp; omega
theorem glV_range (n : Int) : 0 ≤ glV n ∧ glV n ≤ 32767 := by
  by_cases h : 0 ≤ n ∧ n ≤ 31
  · obtain ⟨k, rfl⟩ := Int.eq_ofNat_of_zero_le h.1
    have : ∀ k : Nat, k < 32 → 0 ≤ glV (k : Nat) ∧ glV (k : Nat) ≤ 32767 := by decide +kernel
    exact this k (by omega)
  · unfold glV
    rw [glB_no (by omega)]
    simp

set_option maxHeartbeats 1000000 in
theorem gainLevel_any (n : Int) (w : World) (T : TabA w 4 rootsL) :
    Calls Tryz.prog 105 #[.int .i64 n] w fun e w' => e = .returned (.tuple #[.int .i64 (glV n), .int .i64 (errOf (glB n))]) ∧ w = w' := by
  by_cases h : n < 0 ∨ 31 < n
  · rw [show glV n = 0 by unfold glV; rw [glB_no h]; rfl, glB_no h]
    clear T
    rcases h with h | h
    · go_enter Tryz.func105, Tryz.ntmps105
      go_wp2
      go_ret2
      exact ⟨rfl, rfl⟩
    · have h2 : ¬ n < 0 := by omega
      go_enter Tryz.func105, Tryz.ntmps105
      go_wp2
      go_ret2
      exact ⟨rfl, rfl⟩
  · have l1 : 0 ≤ n := by omega
    have l2 : n ≤ 31 := by omega
    have l3 : ¬ n < 0 := by omega
    have l4 : ¬ 31 < n := by omega
    have K := dualPow_any (3 + 3 * n / 8) (3 * n % 8 * 4096) w T
    rw [show (3 : Int) + 3 * n / 8 = (24 + 3 * n) / 8 by omega, show (3 : Int) * n % 8 * 4096 = (24 + 3 * n) % 8 * 4096 by omega, powB_gl l1 l2] at K
    have hv : powV ((24 + 3 * n) / 8) ((24 + 3 * n) % 8 * 4096) = glV n := by unfold glV; rw [glB_yes l1 l2]; rfl
    rw [hv, show (24 + 3 * n) / 8 = 3 + 3 * n / 8 by omega, show (24 + 3 * n) % 8 * 4096 = 3 * n % 8 * 4096 by omega] at K
    rw [glB_yes l1 l2]
    have K := hid K
    clear hv T h
    go_enter Tryz.func105, Tryz.ntmps105
    go_wp2_with (go_at_call 168; (with_reducible refine K.out.mono ?_); rintro e w' ⟨rfl, rfl⟩)
    go_ret2
    exact ⟨rfl, rfl⟩
end Go.Proofs.YthoiikkjjaldnaaGreatDoor

/- Plain facts on sums of products; a new whole number. -/
namespace Go.Proofs.YthoiikkjjaldnaaGreatDoor
set_option linter.unusedVariables false
set_option linter.unusedSimpArgs false
set_option maxRecDepth 100000
open Go.RowKit

theorem sm_small' {z : Int} (h1 : -9223372036854775808 ≤ z) (h2 : z ≤ 9223372036854775807) : Sm z.natAbs := sm_of_lt (by omega)
theorem cell_grown {w w' : World} {b : Nat} {p : Addr} (h : w.grownBy w' (some b)) (hp : p.block ≠ b) (hlt : p.block < w.heap.size) : w'.cell? p = w.cell? p := by
  have := h.block p.block hlt (by simpa using hp)
  unfold World.cell?
  rw [this]
theorem IntAt_zero (w : World) : IntAt (w.alloc (.cells #[.bool false, .slice none 0 0] 80)) w.heap.size 0 := ⟨_, heap_alloc_new w _, Nm.nil _⟩
def dterm (xs ys : List Int) (i : Nat) : Int := xs.getD i 0 * ys.getD i 0
def dotL (xs ys : List Int) (n : Nat) : Int := sumN (dterm xs ys) n
/-- All of 16 bits. -/
def In16 (xs : List Int) : Prop := ∀ i, -32768 ≤ xs.getD i 0 ∧ xs.getD i 0 ≤ 32767
theorem prod16 {x y : Int} (h1 : -32768 ≤ x) (h2 : x ≤ 32767) (h3 : -32768 ≤ y) (h4 : y ≤ 32767) : -1073741824 ≤ x * y ∧ x * y ≤ 1073741824 := by
  have := mul_bound (x := x) (X := 32768) (y := y) (Y := 32768) (by omega) (by omega) ⟨by omega, by omega⟩ ⟨by omega, by omega⟩
  omega
theorem dotL_range {xs ys : List Int} (hx : In16 xs) (hy : In16 ys) (n : Nat) : -(1073741824 * (n : Int)) ≤ dotL xs ys n ∧ dotL xs ys n ≤ 1073741824 * (n : Int) := by
  unfold dotL
  induction n with
  | zero => simp [sumN]
  | succ n ih =>
    have h := prod16 (hx n).1 (hx n).2 (hy n).1 (hy n).2
    simp only [sumN]
    unfold dterm at *
    push_cast
    omega

end Go.Proofs.YthoiikkjjaldnaaGreatDoor

/- The walk of the reference's dot. -/
namespace Go.Proofs.YthoiikkjjaldnaaGreatDoor
set_option linter.unusedVariables false
set_option linter.unusedSimpArgs false
set_option maxRecDepth 100000
open Go.RowKit

set_option maxHeartbeats 4000000 in
theorem dot_any (A A2 : Option Addr) (cA cB n m : Nat) (xs ys : List Int) (w : World) (hx : Rs w w.heap.size A xs) (hy : Rs w w.heap.size A2 ys) (hn : xs.length = n) (hm : ys.length = m) (hnm : n ≤ m) (hl : n ≤ 1000) (h1 : In16 xs) (h2 : In16 ys) :
    Calls Tryz.prog 53 #[.slice A n cA, .slice A2 m cB] w (GivesZ w (dotL xs ys n)) := by
  have HX := hid hx
  have HY := hid hy
  have HN := hid hn
  have HM := hid hm
  have H1 := hid h1
  have H2 := hid h2
  clear hx hy hn hm h1 h2
  go_enter Tryz.func53, Tryz.ntmps53
  go_wp2
  obtain ⟨bs, hbs⟩ : ∃ bs, bs = w.heap.size := ⟨_, rfl⟩
  have I0 := hid (show IntAt (w.alloc (.cells #[.bool false, .slice none 0 0] 80)) bs 0 from by rw [hbs]; exact IntAt_zero w)
  have B0 := hid ((Below.refl w.heap.size w).alloc (Nat.le_refl _) (.cells #[.bool false, .slice none 0 0] 80))
  rw [← hbs]
  have HBS := hid hbs
  clear hbs
  go_loopw [10] (fun iv wr => ∃ k : Nat, k ≤ n ∧ iv = .int .i64 k ∧ Hid (IntAt wr bs (dotL xs ys k)) ∧ Hid (Below w.heap.size w wr)) (fun iv _ => n - (intOf iv).toNat)
  case atStart => exact ⟨0, by omega, rfl, I0, B0⟩
  case round =>
    clear I0 B0
    obtain ⟨k, hk, rfl, XW, BW⟩ := hrel
    obtain ⟨W, rfl⟩ : ∃ W : World, W = wr := ⟨_, rfl⟩
    have dr := dotL_range H1.out H2.out k
    have ST := hid (show dotL xs ys (k + 1) = dotL xs ys k + xs.getD k 0 * ys.getD k 0 from rfl)
    obtain ⟨s, hs⟩ : ∃ s, s = dotL xs ys k := ⟨_, rfl⟩
    rw [← hs] at dr ST XW
    have HS := hid hs
    clear hs
    have s1 : -1073741824000 ≤ s := by omega
    have s2 : s ≤ 1073741824000 := by omega
    clear dr
    by_cases hlt : k < n
    · have RX := HX.out.below BW.out
      have RY := HY.out.below BW.out
      obtain ⟨ad, rfl, hadb, k0⟩ := RX.at_ (k := k) (by rw [HN.out]; exact hlt)
      obtain ⟨ae, rfl, haeb, k1⟩ := RY.at_ (k := k) (by rw [HM.out]; omega)
      have x16 := H1.out k
      have y16 := H2.out k
      generalize xs.getD k 0 = x at *
      generalize ys.getD k 0 = y at *
      obtain ⟨p1, p2⟩ := prod16 x16.1 x16.2 y16.1 y16.2
      obtain ⟨x1, x2⟩ := x16
      obtain ⟨y1, y2⟩ := y16
      have i1 : (k : Int) < n := by omega
      have i2 : (k : Int) < m := by omega
      have i3 : (0 : Int) ≤ k := by omega
      have hws := BW.out.size
      have hbW := HBS.out
      have hadW : ad.block < W.heap.size := by omega
      have haeW : ae.block < W.heap.size := by omega
      have hadb' : ad.block ≠ bs := by omega
      have haeb' : ae.block ≠ bs := by omega
      have K1 := hid (fun W' => whole_any W' x (by omega) (by omega))
      have K2 := hid (fun W' => whole_any W' y (by omega) (by omega))
      clear RX RY hbW
      go_wp2
      go_region_held3 (fun w' => w'.cell? (ad.add k) = some (.int .i64 x) ∧ w'.cell? (ae.add k) = some (.int .i64 y)) (go_keep) (first
        | (go_at_call 32; (with_reducible refine (K1.out W.drew).mono ?_); rintro e' wA ⟨bA, rfl, hbA, hIA, hBA⟩; have LA : Below W.heap.size W wA := ((Below.refl W.heap.size W).drew).trans (hBA.mono (by first | exact Nat.le_refl _ | simp)); have sA := LA.size; have a0 : World.cell? wA (ad.add k) = some (.int .i64 x) := (LA.cell (by rw [block_of_add]; first | omega | (simp; omega))).trans k0; have a1 : World.cell? wA (ae.add k) = some (.int .i64 y) := (LA.cell (by rw [block_of_add]; first | omega | (simp; omega))).trans k1; have IA := hid hIA; have LA := hid LA; clear hIA hBA)
        | (go_at_call 32; (with_reducible refine (K1.out (World.drew (W.alloc (.cells #[.bool false, .slice none 0 0] 80)))).mono ?_); rintro e' wA ⟨bA, rfl, hbA, hIA, hBA⟩; have LA : Below W.heap.size W wA := (((Below.refl W.heap.size W).alloc (Nat.le_refl _) (.cells #[.bool false, .slice none 0 0] 80)).drew).trans (hBA.mono (by first | exact Nat.le_refl _ | simp)); have sA := LA.size; have a0 : World.cell? wA (ad.add k) = some (.int .i64 x) := (LA.cell (by rw [block_of_add]; first | omega | (simp; omega))).trans k0; have a1 : World.cell? wA (ae.add k) = some (.int .i64 y) := (LA.cell (by rw [block_of_add]; first | omega | (simp; omega))).trans k1; have PA := hid (IntBlk.below (IntBlk.new W (.bool false) (.slice none 0 0)).drew hBA (Nat.le_refl _)); have IA := hid hIA; have LA := hid LA; clear hIA hBA)
        | (go_at_call 32; (with_reducible refine (K2.out wA).mono ?_); rintro e' wB ⟨bB, rfl, hbB, hIB, hBB⟩; have LB : Below W.heap.size W wB := LA.out.trans (hBB.mono (by first | exact sA | (simp; omega))); have sB := LB.size; have b0 : World.cell? wB (ad.add k) = some (.int .i64 x) := (LB.cell (by rw [block_of_add]; first | omega | (simp; omega))).trans k0; have b1 : World.cell? wB (ae.add k) = some (.int .i64 y) := (LB.cell (by rw [block_of_add]; first | omega | (simp; omega))).trans k1; have IB := hid (IA.out.below hBB (Nat.le_refl _)); have sAB := hBB.size; have ABw := hid hBB; have JB := hid hIB; have LB := hid LB; clear hIB hBB)
        | (go_at_call 32; (with_reducible refine (K2.out (wA.alloc (.cells #[.bool false, .slice none 0 0] 80))).mono ?_); rintro e' wB ⟨bB, rfl, hbB, hIB, hBB⟩; have LB : Below W.heap.size W wB := (LA.out.alloc sA (.cells #[.bool false, .slice none 0 0] 80)).trans (hBB.mono (by first | exact sA | (simp; omega))); have sB := LB.size; have b0 : World.cell? wB (ad.add k) = some (.int .i64 x) := (LB.cell (by rw [block_of_add]; first | omega | (simp; omega))).trans k0; have b1 : World.cell? wB (ae.add k) = some (.int .i64 y) := (LB.cell (by rw [block_of_add]; first | omega | (simp; omega))).trans k1; have PB := hid (IntBlk.below (IntBlk.new wA (.bool false) (.slice none 0 0)) hBB (Nat.le_refl _)); have IB := hid ((IA.out.below ((Below.refl _ _).alloc (Nat.le_refl _) (.cells #[.bool false, .slice none 0 0] 80)) (Nat.le_refl _)).below hBB (Nat.le_refl _)); have JB := hid hIB; have LB := hid LB; clear hIB hBB)
        | (go_at_call 118; (with_reducible refine (Mul_any (wB.alloc (.cells #[.bool false, .slice none 0 0] 80)) wB.heap.size bA bB x y (IntBlk.new wB (.bool false) (.slice none 0 0)) (IB.out.below ((Below.refl _ _).alloc (Nat.le_refl _) (.cells #[.bool false, .slice none 0 0] 80)) (Nat.le_refl _)) (JB.out.below ((Below.refl _ _).alloc (Nat.le_refl _) (.cells #[.bool false, .slice none 0 0] 80)) (Nat.le_refl _)) (sm_small' (by omega) (by omega)) (sm_small' (by omega) (by omega))).mono ?_); rintro e' wM ⟨rfl, hIM, hGM⟩; have ltM : W.heap.size ≤ wB.heap.size := (by omega); have XM := hid ((XW.out.below (LB.out.alloc sB (.cells #[.bool false, .slice none 0 0] 80)) (Nat.le_refl _) : IntAt (wB.alloc (.cells #[.bool false, .slice none 0 0] 80)) bs s).kept (IntBlk.new wB (.bool false) (.slice none 0 0)) hGM (by have := XW.out.lt; omega)); have LM : Below W.heap.size W wM := below_of_grownBy (LB.out.alloc sB (.cells #[.bool false, .slice none 0 0] 80)) hGM (by omega); have m0 : World.cell? wM (ad.add k) = some (.int .i64 x) := (LM.cell (by rw [block_of_add]; first | omega | (simp; omega))).trans k0; have m1 : World.cell? wM (ae.add k) = some (.int .i64 y) := (LM.cell (by rw [block_of_add]; first | omega | (simp; omega))).trans k1; have IM := hid hIM; have LM := hid LM; clear hIM hGM)
        | (go_at_call 118; have tok := PB.out; clear tok; (with_reducible refine (Mul_any wB wA.heap.size bA bB x y PB.out IB.out JB.out (sm_small' (by omega) (by omega)) (sm_small' (by omega) (by omega))).mono ?_); rintro e' wM ⟨rfl, hIM, hGM⟩; have ltM : W.heap.size ≤ wA.heap.size := (by omega); have XM := hid ((XW.out.below LB.out (Nat.le_refl _) : IntAt wB bs s).kept PB.out hGM (by have := XW.out.lt; omega)); have LM : Below W.heap.size W wM := below_of_grownBy (LB.out) hGM (by omega); have m0 : World.cell? wM (ad.add k) = some (.int .i64 x) := (LM.cell (by rw [block_of_add]; first | omega | (simp; omega))).trans k0; have m1 : World.cell? wM (ae.add k) = some (.int .i64 y) := (LM.cell (by rw [block_of_add]; first | omega | (simp; omega))).trans k1; have IM := hid hIM; have LM := hid LM; clear hIM hGM)
        | (go_at_call 118; have PC := hid (IntBlk.below PA.out (B := wA.heap.size) ABw.out (Nat.le_refl _)); (with_reducible refine (Mul_any wB W.heap.size bA bB x y PC.out IB.out JB.out (sm_small' (by omega) (by omega)) (sm_small' (by omega) (by omega))).mono ?_); rintro e' wM ⟨rfl, hIM, hGM⟩; have ltM : W.heap.size ≤ W.heap.size := (by omega); have XM := hid ((XW.out.below LB.out (Nat.le_refl _) : IntAt wB bs s).kept PC.out hGM (by have := XW.out.lt; omega)); have LM : Below W.heap.size W wM := below_of_grownBy (LB.out) hGM (by omega); have m0 : World.cell? wM (ad.add k) = some (.int .i64 x) := (LM.cell (by rw [block_of_add]; first | omega | (simp; omega))).trans k0; have m1 : World.cell? wM (ae.add k) = some (.int .i64 y) := (LM.cell (by rw [block_of_add]; first | omega | (simp; omega))).trans k1; have IM := hid hIM; have LM := hid LM; clear hIM hGM)
        | (go_at_call 31; (with_reducible refine (Add_any wM bs bs _ s (x * y) XM.out.blk XM.out IM.out (sm_small' (by omega) (by omega)) (sm_small' (by omega) (by omega))).mono ?_); rintro e' wS ⟨rfl, hIS, hGS⟩; have XS := hid hIS; have GS := hid hGS; have ns0 : World.cell? wS (ad.add k) = some (.int .i64 x) := (cell_grown GS.out (by rw [block_of_add]; omega) (by rw [block_of_add]; have := LM.out.size; omega)).trans m0; have ns1 : World.cell? wS (ae.add k) = some (.int .i64 y) := (cell_grown GS.out (by rw [block_of_add]; omega) (by rw [block_of_add]; have := LM.out.size; omega)).trans m1; clear hIS hGS))
      all_goals
        rename_i hHeldZ
        clear hHeldZ a0 a1 b0 b1 m0 m1 k0 k1 ns0 ns1
        try simp only [Exit.then]
        have BS := hid (below_of_grownBy (BW.out.trans (LM.out.mono BW.out.size)) GS.out (by rw [HBS.out]; exact Nat.le_refl _))
        have XS2 := hid (show IntAt wS bs (dotL xs ys (k + 1)) by rw [ST.out]; exact XS.out)
        go_wp2
        go_roundw
        case rel => exact ⟨k + 1, by omega, by go_num, XS2, BS⟩
        case measure => simp [intOf] <;> omega
    · obtain rfl : k = n := by omega
      have K := hid (Int64_any W bs s XW.out (by omega) (by omega))
      go_wp2_with (go_at_call 75; (with_reducible refine K.out.mono ?_); rintro e w' ⟨rfl, rfl⟩)
      go_ret
      exact ⟨by rw [HS.out]; rfl, BW.out⟩
end Go.Proofs.YthoiikkjjaldnaaGreatDoor

/- The walks of the reference's late and Energy, of the program's Energy, and of the law PulsesEnergies. -/
namespace Go.Proofs.YthoiikkjjaldnaaGreatDoor
set_option linter.unusedVariables false
set_option linter.unusedSimpArgs false
set_option maxRecDepth 100000
open Go.RowKit

theorem repl_get (n k : Nat) : (List.replicate n (0 : Int)).getD k 0 = 0 := by
  rw [List.getD_eq_getElem?_getD, List.getElem?_replicate]
  split <;> rfl
def lateE (ring : List Int) (a i : Nat) : Int := if a ≤ i then s16 (ring.getD (i - a) 0) else 0
def lateL (ring : List Int) (a : Nat) : List Int := (List.range 40).map (lateE ring a)
def lateN (ring : List Int) (a k : Nat) : List Int := (List.range 40).map (fun j => if j < k then lateE ring a j else 0)
theorem lateL_len (ring : List Int) (a : Nat) : (lateL ring a).length = 40 := by simp [lateL]
theorem lateN_len (ring : List Int) (a k : Nat) : (lateN ring a k).length = 40 := by simp [lateN]
theorem lateE_range (ring : List Int) (a i : Nat) : -32768 ≤ lateE ring a i ∧ lateE ring a i ≤ 32767 := by
  unfold lateE
  split
  · exact s16_range _
  · omega
theorem lateL_in (ring : List Int) (a : Nat) : In16 (lateL ring a) := fun i => by
  by_cases h : i < 40
  · unfold lateL; rw [range_get _ h]; exact lateE_range ring a i
  · rw [List.getD_eq_getElem?_getD, List.getElem?_eq_none (by rw [lateL_len]; omega)]; simp
theorem lateN_end (ring : List Int) (a : Nat) : lateN ring a 40 = lateL ring a := by
  refine list_ext (by rw [lateN_len, lateL_len]) fun k hk => ?_
  rw [lateN_len] at hk
  unfold lateN lateL
  rw [range_get _ hk, range_get _ hk, if_pos hk]
theorem lateN_zero (ring : List Int) (a : Nat) : lateN ring a 0 = List.replicate 40 0 := by
  refine list_ext (by rw [lateN_len]; simp) fun k hk => ?_
  rw [lateN_len] at hk
  unfold lateN
  rw [range_get _ hk, if_neg (by omega), repl_get]
theorem lateN_low (ring : List Int) {a k : Nat} (h : k < a) : lateN ring a (k + 1) = lateN ring a k := by
  refine list_ext (by rw [lateN_len, lateN_len]) fun j hj => ?_
  rw [lateN_len] at hj
  unfold lateN
  rw [range_get _ hj, range_get _ hj]
  by_cases e : j = k
  · subst e; rw [if_pos (by omega), if_neg (by omega)]; unfold lateE; rw [if_neg (by omega)]
  · by_cases h2 : j < k
    · rw [if_pos h2, if_pos (by omega)]
    · rw [if_neg h2, if_neg (by omega)]
theorem lateN_set (ring : List Int) {a k : Nat} (h : a ≤ k) (hk : k < 40) : (lateN ring a k).set k (s16 (ring.getD (k - a) 0)) = lateN ring a (k + 1) := by
  refine list_ext (by simp [lateN_len]) fun j hj => ?_
  rw [List.length_set, lateN_len] at hj
  by_cases e : k = j
  · subst e
    rw [get_set_same _ _ _ (by rw [lateN_len]; exact hk)]
    unfold lateN
    rw [range_get _ hj, if_pos (by omega)]
    unfold lateE
    rw [if_pos h]
  · rw [get_set_other _ _ e]
    unfold lateN
    rw [range_get _ hj, range_get _ hj]
    by_cases h2 : j < k
    · rw [if_pos h2, if_pos (by omega)]
    · rw [if_neg h2, if_neg (by omega)]

set_option maxHeartbeats 4000000 in
theorem late_any (A : Option Addr) (c : Nat) (ring : List Int) (a : Nat) (w : World) (hr : Rs w w.heap.size A ring) (hn : ring.length = 40) (ha : a ≤ 40) (hw : W64 ring) :
    Calls Tryz.prog 179 #[.slice A 40 c, .int .i64 (a : Nat)] w (fun e w' => ∃ A2 c2, e = .returned (.slice A2 40 c2) ∧ Own w' w.heap.size A2 c2 (lateL ring a) ∧ Below w.heap.size w w') := by
  have HR := hid hr
  have HN := hid hn
  have HW := hid hw
  clear hr hn hw
  go_enter Tryz.func179, Tryz.ntmps179
  go_wp2_with (at_make; refine wpList_makeI rfl _ _ rfl .i64 .i64 40 rfl rfl w.heap.size (by omega) (Nat.le_refl _) ?_; intro w1 hO hG; have O1 := hid (show Own w1 w.heap.size (some ⟨w.heap.size, 0, none⟩) 40 (lateN ring a 0) by rw [lateN_zero]; exact hO); have B1 := hid ((Below.refl w.heap.size w).grown hG (Nat.le_refl _) (by simp)); clear hO hG)
  go_loopw [10] (fun iv wr => ∃ k : Nat, k ≤ 40 ∧ iv = .int .i64 k ∧ Hid (Own wr w.heap.size (some ⟨w.heap.size, 0, none⟩) 40 (lateN ring a k)) ∧ Hid (Below w.heap.size w wr)) (fun iv _ => 40 - (intOf iv).toNat)
  case atStart => exact ⟨0, by omega, rfl, O1, B1⟩
  case round =>
    clear O1 B1
    obtain ⟨k, hk, rfl, HO, HB⟩ := hrel
    by_cases hlt : k < 40
    · by_cases hak : a ≤ k
      · obtain ⟨ad, rfl, hadb, c0⟩ := (HR.out.below HB.out).at_ (k := k - a) (by rw [HN.out]; omega)
        have x64 := HW.out.at_ (k - a)
        have HSet := hid (lateN_set ring hak hlt)
        obtain ⟨x1, x2⟩ := x64
        generalize ring.getD (k - a) 0 = x at *
        obtain ⟨m, hm⟩ : ∃ m, m = k - a := ⟨_, rfl⟩
        rw [← hm] at c0
        have hi : (k : Int) - (a : Nat) = (m : Nat) := by omega
        have i1 : (m : Int) < 40 := by omega
        have i2 : (0 : Int) ≤ m := by omega
        have d1 : (a : Int) ≤ k := by omega
        have HM := hid hm
        clear hm
        go_wp2_with fail
        refine (S_any x _ x1 x2).mono ?_
        rintro e w2 ⟨rfl, hB⟩
        have O2 := hid (HO.out.below hB)
        have B2 := hid (HB.out.trans (hB.mono HB.out.size))
        have co := O2.out.cell k (by rw [lateN_len]; exact hlt)
        have fo := O2.out.frozen k
        have O3 := hid (O2.out.set_ k (by rw [lateN_len]; exact hlt) (s16 x))
        rw [HSet.out] at O3
        have B3 := hid (B2.out.setCell (p := ⟨w.heap.size, k, none⟩) (Nat.le_refl _) (.int .i64 (s16 x)))
        clear hB c0 hi
        go_wp2
        go_roundw
        case rel => exact ⟨k + 1, by omega, by go_num, O3, B3⟩
        case measure => simp [intOf] <;> omega
      · have d1 : ¬ (a : Int) ≤ k := by omega
        have O3 := hid (show Own wr w.heap.size (some ⟨w.heap.size, 0, none⟩) 40 (lateN ring a (k + 1)) by rw [lateN_low ring (by omega)]; exact HO.out)
        clear hak
        go_wp2
        go_roundw
        case rel => exact ⟨k + 1, by omega, by go_num, O3, HB⟩
        case measure => simp [intOf] <;> omega
    · obtain rfl : k = 40 := by omega
      have O3 := hid (show Own wr w.heap.size (some ⟨w.heap.size, 0, none⟩) 40 (lateL ring a) by rw [← lateN_end]; exact HO.out)
      go_wp2
      go_ret
      exact ⟨_, _, rfl, O3.out, HB.out⟩

def inH (a : Int) : Bool := decide (0 ≤ a ∧ a ≤ 39)
def enErr (n : Nat) (a b : Int) : Int := if n = 40 then (if inH a && inH b then 0 else 2) else 1
def enV (ring : List Int) (a b : Int) : Int := if enErr ring.length a b = 0 then dotL (lateL ring a.toNat) (lateL ring b.toNat) 40 else 0
def EnAns (ring : List Int) (a b : Int) (w : World) (e : Ending) (w' : World) : Prop := e = .returned (.tuple #[.int .i64 (enV ring a b), .int .i64 (enErr ring.length a b)]) ∧ Below w.heap.size w w'
theorem EnAns.bad {ring : List Int} {a b : Int} {w w' : World} {er : Int} (h : enErr ring.length a b = er) (h0 : er ≠ 0) (hB : Below w.heap.size w w') : EnAns ring a b w (.returned (.tuple #[.int .i64 0, .int .i64 er])) w' :=
  ⟨by unfold enV; rw [h, if_neg h0], hB⟩



/-- The terms of the program's sum. -/
def enT (ring : List Int) (a b i : Nat) : Int := lateE ring a i * lateE ring b i
theorem enT_sum (ring : List Int) (a b : Nat) : dotL (lateL ring a) (lateL ring b) 40 = sumN (enT ring a b) 40 :=
  sumN_congr 40 fun i hi => by unfold dterm lateL enT; rw [range_get _ hi, range_get _ hi]
theorem enT_low (ring : List Int) (a b : Nat) : ∀ k, k ≤ a ∨ k ≤ b → sumN (enT ring a b) k = 0
  | 0, _ => rfl
  | k + 1, h => by
    have h0 : lateE ring a k = 0 ∨ lateE ring b k = 0 := by
      rcases h with h | h
      · left; unfold lateE; rw [if_neg (by omega)]
      · right; unfold lateE; rw [if_neg (by omega)]
    have h1 := enT_low ring a b k (by omega)
    simp only [sumN]
    rw [h1]
    unfold enT
    rcases h0 with h0 | h0 <;> rw [h0] <;> simp
theorem enT_range (ring : List Int) (a b k : Nat) : -(1073741824 * (k : Int)) ≤ sumN (enT ring a b) k ∧ sumN (enT ring a b) k ≤ 1073741824 * (k : Int) := by
  induction k with
  | zero => simp [sumN]
  | succ k ih =>
    have h := prod16 (lateE_range ring a k).1 (lateE_range ring a k).2 (lateE_range ring b k).1 (lateE_range ring b k).2
    simp only [sumN]
    unfold enT at *
    push_cast
    omega

set_option maxHeartbeats 4000000 in
theorem pulsesEnergy_any (A : Option Addr) (c n : Nat) (ring : List Int) (a b : Int) (w : World) (hr : Rs w w.heap.size A ring) (hrn : ring.length = n) (hw : W64 ring) :
    Calls Tryz.prog 202 #[.slice A n c, .int .i64 a, .int .i64 b] w (EnAns ring a b w) := by
  by_cases hn : n = 40
  rotate_left
  · have FIN := hid (fun w' (hB : Below w.heap.size w w') => EnAns.bad (ring := ring) (a := a) (b := b) (er := 1) (by rw [hrn]; unfold enErr; rw [if_neg hn]) (by decide) hB)
    have d0 : ((n : Int) != 40) = true := by simp; omega
    have d00 : ¬ (n : Int) = 40 := by omega
    clear hn hrn hr hw
    go_enter Tryz.func202, Tryz.ntmps202
    go_wp2
    go_ret2
    exact FIN.out _ (Below.refl _ _)
  subst hn
  by_cases hab : inH a = true ∧ inH b = true
  rotate_left
  · have FIN := hid (fun w' (hB : Below w.heap.size w w') => EnAns.bad (ring := ring) (a := a) (b := b) (er := 2) (by rw [hrn]; unfold enErr; rw [if_pos rfl, if_neg (by simpa using hab)]) (by decide) hB)
    unfold inH at hab
    simp only [decide_eq_true_eq] at hab
    clear hrn hr hw
    by_cases a1 : a < 0
    · clear hab
      go_enter Tryz.func202, Tryz.ntmps202
      go_wp2
      go_ret2
      exact FIN.out _ (Below.refl _ _)
    by_cases a2 : 39 < a
    · have a3 : 40 ≤ a := by omega
      clear hab
      go_enter Tryz.func202, Tryz.ntmps202
      go_wp2
      go_ret2
      exact FIN.out _ (Below.refl _ _)
    have a3 : ¬ 40 ≤ a := by omega
    by_cases b1 : b < 0
    · clear hab
      go_enter Tryz.func202, Tryz.ntmps202
      go_wp2
      go_ret2
      exact FIN.out _ (Below.refl _ _)
    have b2 : 39 < b := by omega
    have b3 : 40 ≤ b := by omega
    clear hab
    go_enter Tryz.func202, Tryz.ntmps202
    go_wp2
    go_ret2
    exact FIN.out _ (Below.refl _ _)
  have HV := hid (show enErr ring.length a b = 0 by rw [hrn]; unfold enErr; rw [if_pos rfl, if_pos (by simpa using hab)])
  have HV2 := hid (show enV ring a b = dotL (lateL ring a.toNat) (lateL ring b.toNat) 40 by unfold enV; rw [if_pos HV.out])
  unfold inH at hab
  simp only [decide_eq_true_eq] at hab
  obtain ⟨⟨a1, a2⟩, b1, b2⟩ := hab
  obtain ⟨p, rfl⟩ := Int.eq_ofNat_of_zero_le a1
  obtain ⟨q, rfl⟩ := Int.eq_ofNat_of_zero_le b1
  rw [show ((p : Nat) : Int).toNat = p from rfl, show ((q : Nat) : Int).toNat = q from rfl] at HV2
  have HRN := hid hrn
  have HR := hid hr
  have HW := hid hw
  clear hr hrn hw
  have a3 : ¬ ((p : Nat) : Int) < 0 := by omega
  have a4 : ¬ 40 ≤ ((p : Nat) : Int) := by omega
  have b3 : ¬ ((q : Nat) : Int) < 0 := by omega
  have b4 : ¬ 40 ≤ ((q : Nat) : Int) := by omega
  by_cases hpq : (p : Int) < q
  · have H0 := hid (show (0 : Int) = sumN (enT ring p q) q from (enT_low ring p q q (.inr (Nat.le_refl _))).symm)
    go_enter Tryz.func202, Tryz.ntmps202
    go_wp2
    go_loopw [8, 9] (fun sv iv wr => ∃ (k : Nat) (s : Int), q ≤ k ∧ k ≤ 40 ∧ iv = .int .i64 k ∧ sv = .int .i64 s ∧ Hid (s = sumN (enT ring p q) k) ∧ Hid (Below w.heap.size w wr)) (fun _ iv _ => 40 - (intOf iv).toNat)
    case atStart => exact ⟨q, 0, Nat.le_refl _, by omega, rfl, rfl, H0, hid (Below.refl _ _)⟩
    case round =>
      obtain ⟨k, s, hk0, hk, rfl, rfl, HS, HB⟩ := hrel
      by_cases hlt : k < 40
      · have sb := enT_range ring p q k
        have ST := hid (show sumN (enT ring p q) (k + 1) = s + s16 (ring.getD (k - p) 0) * s16 (ring.getD (k - q) 0) by
          rw [HS.out]; simp only [sumN]; unfold enT lateE; rw [if_pos (by omega), if_pos (by omega)])
        have hs := HS.out
        rw [← hs] at sb
        have s1 : -1073741824000 ≤ s := by omega
        have s2 : s ≤ 1073741824000 := by omega
        clear hs sb
        obtain ⟨ad, rfl, hadb, c0⟩ := (HR.out.below HB.out).at_ (k := k - p) (by rw [HRN.out]; omega)
        obtain ⟨ad2, had2, _, c1⟩ := (HR.out.below HB.out).at_ (k := k - q) (by rw [HRN.out]; omega)
        injection had2 with had2
        subst had2
        generalize ring.getD (k - p) 0 = x at *
        generalize ring.getD (k - q) 0 = y at *
        obtain ⟨m, hm⟩ : ∃ m, m = k - p := ⟨_, rfl⟩
        obtain ⟨m2, hm2⟩ : ∃ m2, m2 = k - q := ⟨_, rfl⟩
        rw [← hm] at c0
        rw [← hm2] at c1
        have hw0 : IntKind.i64.wrap ((k : Int) - (p : Nat)) = (m : Nat) := by rw [IntKind.wrap_i64]; omega
        have hw1 : IntKind.i64.wrap ((k : Int) - (q : Nat)) = (m2 : Nat) := by rw [IntKind.wrap_i64]; omega
        have xr := s16_range x
        have yr := s16_range y
        have KX : Hid (∀ W, Calls Tryz.prog 163 #[.int .i64 x] W fun e w' => e = .returned (.int .i64 (s16 x)) ∧ w' = W) := hid (fun W => (pulsessat_any x W).mono fun _ _ h => ⟨h.1, h.2.symm⟩)
        have KY : Hid (∀ W, Calls Tryz.prog 163 #[.int .i64 y] W fun e w' => e = .returned (.int .i64 (s16 y)) ∧ w' = W) := hid (fun W => (pulsessat_any y W).mono fun _ _ h => ⟨h.1, h.2.symm⟩)
        generalize s16 x = x' at *
        generalize s16 y = y' at *
        obtain ⟨p1, p2⟩ := prod16 xr.1 xr.2 yr.1 yr.2
        have hw2 : IntKind.i64.wrap (x' * y') = x' * y' := by rw [IntKind.wrap_i64]; omega
        have hw3 : IntKind.i64.wrap (s + x' * y') = s + x' * y' := by rw [IntKind.wrap_i64]; omega
        have i1 : (m : Int) < 40 := by omega
        have i2 : (0 : Int) ≤ m := by omega
        have i3 : (m2 : Int) < 40 := by omega
        have i4 : (0 : Int) ≤ m2 := by omega
        have HM := hid hm
        have HM2 := hid hm2
        clear hm hm2 xr yr
        go_wp2
        go_quiet ((go_at_call 163; first | (with_reducible exact Calls.quiet_of_same (KX.out _)) | (with_reducible exact Calls.quiet_of_same (KY.out _))))
        clear hw0 hw1 hw2 hw3
        go_wp2
        go_roundw
        case rel => exact ⟨k + 1, _, by omega, by omega, by go_num, rfl, hid ST.out.symm, hid (HB.out.trans ((below_drN _ _).mono HB.out.size))⟩
        case measure => simp [intOf] <;> omega
      · obtain rfl : k = 40 := by omega
        go_wp2
        go_ret2
        exact ⟨by rw [HV.out, HV2.out, enT_sum, ← HS.out]; rfl, HB.out⟩
  · have H0 := hid (show (0 : Int) = sumN (enT ring p q) p from (enT_low ring p q p (.inl (Nat.le_refl _))).symm)
    have hpq2 : (q : Int) ≤ p := by omega
    go_enter Tryz.func202, Tryz.ntmps202
    go_wp2
    go_loopw [8, 9] (fun sv iv wr => ∃ (k : Nat) (s : Int), p ≤ k ∧ k ≤ 40 ∧ iv = .int .i64 k ∧ sv = .int .i64 s ∧ Hid (s = sumN (enT ring p q) k) ∧ Hid (Below w.heap.size w wr)) (fun _ iv _ => 40 - (intOf iv).toNat)
    case atStart => exact ⟨p, 0, Nat.le_refl _, by omega, rfl, rfl, H0, hid (Below.refl _ _)⟩
    case round =>
      obtain ⟨k, s, hk0, hk, rfl, rfl, HS, HB⟩ := hrel
      by_cases hlt : k < 40
      · have sb := enT_range ring p q k
        have ST := hid (show sumN (enT ring p q) (k + 1) = s + s16 (ring.getD (k - p) 0) * s16 (ring.getD (k - q) 0) by
          rw [HS.out]; simp only [sumN]; unfold enT lateE; rw [if_pos (by omega), if_pos (by omega)])
        have hs := HS.out
        rw [← hs] at sb
        have s1 : -1073741824000 ≤ s := by omega
        have s2 : s ≤ 1073741824000 := by omega
        clear hs sb
        obtain ⟨ad, rfl, hadb, c0⟩ := (HR.out.below HB.out).at_ (k := k - p) (by rw [HRN.out]; omega)
        obtain ⟨ad2, had2, _, c1⟩ := (HR.out.below HB.out).at_ (k := k - q) (by rw [HRN.out]; omega)
        injection had2 with had2
        subst had2
        generalize ring.getD (k - p) 0 = x at *
        generalize ring.getD (k - q) 0 = y at *
        obtain ⟨m, hm⟩ : ∃ m, m = k - p := ⟨_, rfl⟩
        obtain ⟨m2, hm2⟩ : ∃ m2, m2 = k - q := ⟨_, rfl⟩
        rw [← hm] at c0
        rw [← hm2] at c1
        have hw0 : IntKind.i64.wrap ((k : Int) - (p : Nat)) = (m : Nat) := by rw [IntKind.wrap_i64]; omega
        have hw1 : IntKind.i64.wrap ((k : Int) - (q : Nat)) = (m2 : Nat) := by rw [IntKind.wrap_i64]; omega
        have xr := s16_range x
        have yr := s16_range y
        have KX : Hid (∀ W, Calls Tryz.prog 163 #[.int .i64 x] W fun e w' => e = .returned (.int .i64 (s16 x)) ∧ w' = W) := hid (fun W => (pulsessat_any x W).mono fun _ _ h => ⟨h.1, h.2.symm⟩)
        have KY : Hid (∀ W, Calls Tryz.prog 163 #[.int .i64 y] W fun e w' => e = .returned (.int .i64 (s16 y)) ∧ w' = W) := hid (fun W => (pulsessat_any y W).mono fun _ _ h => ⟨h.1, h.2.symm⟩)
        generalize s16 x = x' at *
        generalize s16 y = y' at *
        obtain ⟨p1, p2⟩ := prod16 xr.1 xr.2 yr.1 yr.2
        have hw2 : IntKind.i64.wrap (x' * y') = x' * y' := by rw [IntKind.wrap_i64]; omega
        have hw3 : IntKind.i64.wrap (s + x' * y') = s + x' * y' := by rw [IntKind.wrap_i64]; omega
        have i1 : (m : Int) < 40 := by omega
        have i2 : (0 : Int) ≤ m := by omega
        have i3 : (m2 : Int) < 40 := by omega
        have i4 : (0 : Int) ≤ m2 := by omega
        have HM := hid hm
        have HM2 := hid hm2
        clear hm hm2 xr yr
        go_wp2
        go_quiet ((go_at_call 163; first | (with_reducible exact Calls.quiet_of_same (KX.out _)) | (with_reducible exact Calls.quiet_of_same (KY.out _))))
        clear hw0 hw1 hw2 hw3
        go_wp2
        go_roundw
        case rel => exact ⟨k + 1, _, by omega, by omega, by go_num, rfl, hid ST.out.symm, hid (HB.out.trans ((below_drN _ _).mono HB.out.size))⟩
        case measure => simp [intOf] <;> omega
      · obtain rfl : k = 40 := by omega
        go_wp2
        go_ret2
        exact ⟨by rw [HV.out, HV2.out, enT_sum, ← HS.out]; rfl, HB.out⟩

def oneL : List Int := (List.replicate 40 0).set 0 1
theorem oneL_len : oneL.length = 40 := by simp [oneL]
theorem oneL_w : W64 oneL := fun x hx => by
  have : x = 0 ∨ x = 1 := by
    rcases List.mem_or_eq_of_mem_set hx with h | h
    · left; exact (List.mem_replicate.1 h).2
    · right; exact h
  omega
theorem en_one : enV oneL 3 3 = 1 := by decide +kernel

end Go.Proofs.YthoiikkjjaldnaaGreatDoor
