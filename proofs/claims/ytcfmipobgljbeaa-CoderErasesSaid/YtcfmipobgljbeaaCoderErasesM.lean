/- The walks that the law CoderErases rests on, in one text. -/
import Derived.Test.YtcfmipobgljbeaaSilW
import Derived.Test.YtcfmipobgljbeaaMxW
import Derived.Test.YtcfmipobgljbeaaFadeW
import Derived.Deep.RegionHeld3
import Derived.Test.YtcfmipobgljbeaaRow
import Derived.Test.YtcfmipobgljbeaaLpcM
import Derived.Test.YtcfmipobgljbeaaBigRd
import Derived.RegionTactic
import Derived.Test.YtcfmipobgljbeaaBigQuo
import Derived.Test.YtcfmipobgljbeaaRefClip
import Derived.BigQuiet
import Derived.Laws.StructEq
import Derived.Test.YtcfmipobgljbeaaDown
import Derived.Test.YtcfmipobgljbeaaLevM
import Derived.Test.YtcfmipobgljbeaaSliceW
import Derived.Laws.CopyOwn
import Derived.Deep.RegionLaw
import Derived.Test.YtcfmipobgljbeaaCopyI
import Derived.Test.YtcfmipobgljbeaaPushN
import Derived.Test.YtcfmipobgljbeaaPastW
import Derived.Test.YtcfmipobgljbeaaDownK
import Derived.Test.YtcfmipobgljbeaaGrownW
import Derived.Test.YtcfmipobgljbeaaMemo
/- Package conceal's Erased. -/
namespace Go.Proofs.Ytcfmipobgljbeaa
set_option linter.unusedVariables false
set_option linter.unusedSimpArgs false
set_option maxRecDepth 100000
open Go.RowKit

/-! Plain facts. -/
def eraZ (m : Mm) : Int := fade m.ga m.er / 4
def eraX (m : Mm) : List Int := mxL m.e (nzL m.se (eraZ m) 40) m.la (fade m.pi m.er) 40
def eraN (m : Mm) : Mm := { m with se := nzE m.se 40, e := keepL m.e (eraX m) }
def er1 (m : Mm) (half : Int) : Int := if half = 0 ∧ m.er < 6 then m.er + 1 else m.er
def eraP (m : Mm) (half : Int) : Mm := { m with er := er1 m half }
def eraB (m : Mm) (half : Int) : Bool := goodM m && decide (0 ≤ half ∧ half ≤ 1)
def eraR (m : Mm) (half : Int) : Mm := if eraB m half then eraN (eraP m half) else zeroM
def eraY (m : Mm) (half : Int) : List Int := if eraB m half then eraX (eraP m half) else []
theorem eraX_good {m : Mm} (h : 20 ≤ m.la ∧ m.la ≤ 79) : mxB m.la (fade m.pi m.er) = true := by
  unfold mxB
  have := fade_range m.pi m.er
  rw [pastB_yes h.1 h.2]
  simp [this.1, this.2]
theorem eraX_len {m : Mm} (h : 20 ≤ m.la ∧ m.la ≤ 79) : (eraX m).length = 40 := by
  unfold eraX
  rw [(mx_good (eraX_good h)).1]
  simp
theorem eraN_ok {m : Mm} (k : m.ok) (h : 20 ≤ m.la ∧ m.la ≤ 79) : (eraN m).ok := ⟨k.r, k.p, keepL_len k.e (eraX_len h)⟩
theorem eraP_ok {m : Mm} (k : m.ok) (half : Int) : (eraP m half).ok := ⟨k.r, k.p, k.e⟩
theorem eraB_good {m : Mm} {half : Int} (h : eraB m half = true) : goodM m = true ∧ 0 ≤ half ∧ half ≤ 1 := by
  unfold eraB at h
  simpa using h
theorem eraR_ok {m : Mm} (k : m.ok) (half : Int) : (eraR m half).ok := by
  unfold eraR
  split
  · next h => exact eraN_ok (eraP_ok k half) (goodM_of (eraB_good h).1).2.2.2.1
  · exact zeroM_ok
theorem eraY_len (m : Mm) (half : Int) : (eraY m half).length ≤ 40 := by
  unfold eraY
  split
  · next h => exact Nat.le_of_eq (eraX_len (goodM_of (eraB_good h).1).2.2.2.1)
  · simp

set_option maxHeartbeats 8000000 in
theorem erased_any (m : Mm) (k : m.ok) (half : Int) (w : World) : Calls Try.prog 60 #[.agg m.ag, .int .i64 half] w (NewM w (eraR m half) (eraY m half) (errOf (eraB m half))) := by
  have hR := results_mem3 (fn := Try.f60) (p := 4) (q := 5) (r := 6) rfl
  have S0 := hid (Ms.start w m)
  have K := hid k
  have KG := hid (fun W => good_any m k W)
  clear k
  go_enter Try.func60, Try.ntmps60
  go_wp2_with (refine wpList_loadM rfl (.tmp 2) rfl _ m rfl S0.out.A K.out ?_)
  refine (KG.out _).mono ?_
  rintro e w1 ⟨rfl, hB⟩
  have S1 := hid (S0.out.below hB)
  clear hB S0 KG
  cases hg : goodM m with
  | false =>
    have HE := hid (show eraB m half = false by unfold eraB; rw [hg]; rfl)
    clear hg
    have FR := hid (show eraR m half = zeroM by unfold eraR; rw [HE.out]; rfl)
    have FY := hid (show eraY m half = [] by unfold eraY; rw [HE.out]; rfl)
    have hRow := hid (MB.setRow S1.out.R zeroM)
    have FIN := hid (below_setRow S1.out.bel (g := w.heap.size + 1) (by omega) zeroM.ag)
    go_wp2_with (refine wpList_storeM rfl (.tmp 4) (.tmp 21) rfl _ zeroM zeroM rfl (congrArg Value.agg zeroM_ag) S1.out.R zeroM_ok zeroM_ok ?_)
    refine bodyPost_ret (v := _) (hR _ _ _ zeroM rfl hRow.out zeroM_ok) rfl ?_
    rw [FR.out, FY.out, HE.out]
    exact ⟨none, 0, rfl, Own.nil, FIN.out⟩
  | true =>
  by_cases h1 : half < 0
  · have HE := hid (show eraB m half = false by unfold eraB; simp; omega)
    clear hg
    have FR := hid (show eraR m half = zeroM by unfold eraR; rw [HE.out]; rfl)
    have FY := hid (show eraY m half = [] by unfold eraY; rw [HE.out]; rfl)
    have hRow := hid (MB.setRow S1.out.R zeroM)
    have FIN := hid (below_setRow S1.out.bel (g := w.heap.size + 1) (by omega) zeroM.ag)
    go_wp2_with (refine wpList_storeM rfl (.tmp 4) (.tmp 21) rfl _ zeroM zeroM rfl (congrArg Value.agg zeroM_ag) S1.out.R zeroM_ok zeroM_ok ?_)
    refine bodyPost_ret (v := _) (hR _ _ _ zeroM rfl hRow.out zeroM_ok) rfl ?_
    rw [FR.out, FY.out, HE.out]
    exact ⟨none, 0, rfl, Own.nil, FIN.out⟩
  by_cases h2 : 2 ≤ half
  · have HE := hid (show eraB m half = false by unfold eraB; simp; omega)
    clear hg
    have FR := hid (show eraR m half = zeroM by unfold eraR; rw [HE.out]; rfl)
    have FY := hid (show eraY m half = [] by unfold eraY; rw [HE.out]; rfl)
    have hRow := hid (MB.setRow S1.out.R zeroM)
    have FIN := hid (below_setRow S1.out.bel (g := w.heap.size + 1) (by omega) zeroM.ag)
    go_wp2_with (refine wpList_storeM rfl (.tmp 4) (.tmp 21) rfl _ zeroM zeroM rfl (congrArg Value.agg zeroM_ag) S1.out.R zeroM_ok zeroM_ok ?_)
    refine bodyPost_ret (v := _) (hR _ _ _ zeroM rfl hRow.out zeroM_ok) rfl ?_
    rw [FR.out, FY.out, HE.out]
    exact ⟨none, 0, rfl, Own.nil, FIN.out⟩
  have HE := hid (show eraB m half = true by unfold eraB; rw [hg]; simp; omega)
  have HT := hid (goodM_of hg).2.2.2
  have FR := hid (show eraR m half = eraN (eraP m half) by unfold eraR; rw [HE.out]; rfl)
  have FY := hid (show eraY m half = eraX (eraP m half) by unfold eraY; rw [HE.out]; rfl)
  clear hg
  have key : (half = 0 ∧ m.er < 6) ∨ (half = 0 ∧ m.er = 6) ∨ half = 1 := by
    have := HT.out.2.2.2.2
    omega
  have a5 : w1.cell? ⟨w.heap.size, 99, none⟩ = some (.int .i64 m.er) := S1.out.A.cer K.out
  have f5 : w1.frozen? ⟨w.heap.size, 99, none⟩ = false := MB.frozen S1.out.A 99
  have hM : ∃ m2 : Mm, m2 = eraP m half := ⟨_, rfl⟩
  obtain ⟨m2, hm2⟩ := hM
  rw [← hm2] at FR FY
  have K2 := hid (show m2.ok by rw [hm2]; exact eraP_ok K.out half)
  have HLA := hid (show 20 ≤ m2.la ∧ m2.la ≤ 79 by rw [hm2]; exact HT.out.1)
  rcases key with ⟨rfl, h6⟩ | ⟨rfl, h6⟩ | rfl
  · have hw1 : IntKind.i64.wrap (m.er + 1) = m.er + 1 := by have := HT.out.2.2.2.2; rw [IntKind.wrap_i64]; omega
    have h7 : m.er + 1 ≤ 6 := by omega
    have MM := hid (show Ms w (w1.setCell ⟨w.heap.size, 99, none⟩ (.int .i64 (m.er + 1))) m2 by
      have := S1.out.er K.out (m.er + 1)
      rw [hm2]
      unfold eraP er1
      rw [if_pos ⟨rfl, h6⟩]
      exact this)
    clear hm2 h1 h2
    go_wp2_with fail
    obtain ⟨W2, hW2⟩ : ∃ W2, W2 = w1.setCell ⟨w.heap.size, 99, none⟩ (.int .i64 (m.er + 1)) := ⟨_, rfl⟩
    rw [← hW2] at MM ⊢
    clear hW2 a5 f5 hw1 h6 h7
    have c96 : W2.cell? ⟨w.heap.size, 96, none⟩ = some (.int .i64 m2.ga) := MM.out.A.cga K2.out
    have c99 : W2.cell? ⟨w.heap.size, 99, none⟩ = some (.int .i64 m2.er) := MM.out.A.cer K2.out
    have c100 : W2.cell? ⟨w.heap.size, 100, none⟩ = some (.int .i64 m2.se) := MM.out.A.cse K2.out
    have KN := hid (fun W => show Calls Try.prog 87 #[.int .i64 m2.se, .int .i64 (eraZ m2), .int .i64 40] W (NzA W m2.se (eraZ m2) 40) from cnoise_any m2.se (eraZ m2) 40 W (by omega))
    have KM := hid (fun W A c (hr : Rs W W.heap.size A (nzL m2.se (eraZ m2) 40)) => show Calls Try.prog 89 #[.agg (ints m2.e).toArray, .int .i64 m2.la, .int .i64 (fade m2.pi m2.er), .slice A 40 c] W (fun e w' => ∃ A c, e = .returned (.tuple #[.slice A 40 c, .int .i64 0]) ∧ Own w' W.heap.size A c (eraX m2) ∧ Below W.heap.size W w') from by
      refine (mix_any m2.e _ m2.la (fade m2.pi m2.er) A c 40 W K2.out.e hr (nzL_len _ _ _) (by omega)).mono ?_
      rintro e w' ⟨A', c', h1, h2, h3⟩
      rw [(mx_good (h := m2.e) (x := nzL m2.se (eraZ m2) 40) (eraX_good HLA.out)).2] at h1
      have hl := eraX_len HLA.out
      unfold eraX at hl
      rw [hl] at h1
      exact ⟨A', c', h1, h2, h3⟩)
    have XL := hid (eraX_len HLA.out)
    have EN := hid (show eraN m2 = { m2 with se := nzE m2.se 40, e := keepL m2.e (eraX m2) } from rfl)
    have KF0 := fun W => fade_any m2.ga m2.er W
    have KG0 := fun W => fade_any m2.pi m2.er W
    have fb := fade_range m2.ga m2.er
    have hwz : IntKind.i64.wrap (eraZ m2) = eraZ m2 := by unfold eraZ; rw [IntKind.wrap_i64]; omega
    have hq : (fade m2.ga m2.er).tdiv 4 = eraZ m2 := by unfold eraZ; exact Int.tdiv_eq_ediv_of_nonneg fb.1
    generalize eraX m2 = x at *
    generalize eraZ m2 = z at *
    generalize fade m2.ga m2.er = f at *
    generalize fade m2.pi m2.er = f2 at *
    have KF := hid KF0
    have KG := hid KG0
    clear KF0 KG0 fb
    refine wp_region_noPanic ?_
    refine wp_region_held_drew (S := fun w' => w'.cell? ⟨w.heap.size, 96, none⟩ = some (.int .i64 m2.ga) ∧ w'.cell? ⟨w.heap.size, 99, none⟩ = some (.int .i64 m2.er)) (by kernel_rfl) ⟨c96, c99⟩ (fun hHeld => ?_)
    refine wpAnyH_take (i := 0) (v := ?_) rfl (by kernel_rfl) (by kernel_rfl) (by kernel_rfl) (fun _ _ _ h => h) (Or.inl ⟨by rfl, ?_⟩) hHeld ?_
    rotate_left
    · intro w hSw; obtain ⟨hS1, hS2⟩ := hSw; go_simp
      try with_reducible rfl
    try simp only [List.getElem_toArray, List.getElem_cons_zero, List.getElem_cons_succ, Act.put, List.setIfInBounds_toArray, List.set_cons_zero, List.set_cons_succ]
    refine wpAnyH_take (i := 2) (v := ?_) rfl (by kernel_rfl) (by kernel_rfl) (by kernel_rfl) (fun _ _ _ h => h) (Or.inl ⟨by rfl, ?_⟩) hHeld ?_
    rotate_left
    · intro w hSw; obtain ⟨hS1, hS2⟩ := hSw; go_simp
      try with_reducible rfl
    try simp only [List.getElem_toArray, List.getElem_cons_zero, List.getElem_cons_succ, Act.put, List.setIfInBounds_toArray, List.set_cons_zero, List.set_cons_succ]
    refine wpAnyH_take (i := 3) (v := ?_) rfl (by kernel_rfl) (by kernel_rfl) (by kernel_rfl) (fun _ _ _ h => h) (Or.inl ⟨by rfl, ?_⟩) hHeld ?_
    rotate_left
    · intro w hSw; obtain ⟨hS1, hS2⟩ := hSw; go_simp
      try with_reducible rfl
    try simp only [List.getElem_toArray, List.getElem_cons_zero, List.getElem_cons_succ, Act.put, List.setIfInBounds_toArray, List.set_cons_zero, List.set_cons_succ]
    refine wpAnyH_take (i := 4) (v := ?_) rfl (by kernel_rfl) (by kernel_rfl) (by kernel_rfl) (fun _ _ _ h => h) (Or.inl ⟨by rfl, ?_⟩) hHeld ?_
    rotate_left
    · intro w hSw; obtain ⟨hS1, hS2⟩ := hSw; go_simp
      try with_reducible rfl
    try simp only [List.getElem_toArray, List.getElem_cons_zero, List.getElem_cons_succ, Act.put, List.setIfInBounds_toArray, List.set_cons_zero, List.set_cons_succ]
    refine wpAnyH_take (i := 5) (v := ?_) rfl (by kernel_rfl) (by kernel_rfl) (by kernel_rfl) (fun _ _ _ h => h) (Or.inl ⟨by rfl, ?_⟩) hHeld ?_
    rotate_left
    · intro w hSw; obtain ⟨hS1, hS2⟩ := hSw; go_simp
      try with_reducible rfl
    try simp only [List.getElem_toArray, List.getElem_cons_zero, List.getElem_cons_succ, Act.put, List.setIfInBounds_toArray, List.set_cons_zero, List.set_cons_succ]
    refine wpAnyH_ready (rs := [1, 6]) (by kernel_rfl) (by simp) ?_
    refine AllReadyH.cons rfl (fun K hK => ?_) (AllReadyH.cons rfl (fun K hK => ?_) AllReadyH.nil)
    · clear hHeld
      go_simp
      refine hK.out _ _ ⟨c96, c99⟩ (fun hHeld => ?_)
      clear hK K
      try simp only [List.getElem_toArray, List.getElem_cons_zero, List.getElem_cons_succ, Act.put, List.setIfInBounds_toArray, List.set_cons_zero, List.set_cons_succ]
      refine wpAnyH_ready (rs := [6]) (by kernel_rfl) (by simp) ?_
      refine AllReadyH.cons rfl (fun K hK => ?_) AllReadyH.nil
      clear hHeld
      go_simp
      go_at_call 88
      (with_reducible refine (KF.out _).mono ?_)
      rintro e' w' ⟨rfl, rfl⟩
      refine hK.out _ _ ⟨c96, c99⟩ (fun hHeld => ?_)
      clear hK K
      try simp only [List.getElem_toArray, List.getElem_cons_zero, List.getElem_cons_succ, Act.put, List.setIfInBounds_toArray, List.set_cons_zero, List.set_cons_succ]
      refine wpAnyH_take (i := 7) (v := ?_) rfl (by kernel_rfl) (by kernel_rfl) (by kernel_rfl) (fun _ _ _ h => h) (Or.inl ⟨by rfl, ?_⟩) hHeld ?_
      rotate_left
      · intro w hSw; obtain ⟨hS1, hS2⟩ := hSw; go_simp
        try with_reducible rfl
      try simp only [List.getElem_toArray, List.getElem_cons_zero, List.getElem_cons_succ, Act.put, List.setIfInBounds_toArray, List.set_cons_zero, List.set_cons_succ]
      refine wpAnyH_ready (rs := [8]) (by kernel_rfl) (by simp) ?_
      refine AllReadyH.cons rfl (fun K hK => ?_) AllReadyH.nil
      clear hHeld
      go_simp
      go_at_call 87
      (with_reducible refine (KN.out W2.drew).mono ?_)
      rintro e' w3 ⟨A3, c3, rfl, hO, hB⟩; have M3 : Ms w w3 m2 := MM.out.drew.below hB; have d96 : w3.cell? ⟨w.heap.size, 96, none⟩ = some (.int .i64 m2.ga) := M3.A.cga K2.out; have d99 : w3.cell? ⟨w.heap.size, 99, none⟩ = some (.int .i64 m2.er) := M3.A.cer K2.out; have d100 : w3.cell? ⟨w.heap.size, 100, none⟩ = some (.int .i64 m2.se) := M3.A.cse K2.out; have g100 : w3.frozen? ⟨w.heap.size, 100, none⟩ = false := MB.frozen M3.A 100; have M4 : Ms w (w3.setCell ⟨w.heap.size, 100, none⟩ (.int .i64 (nzE m2.se 40))) { m2 with se := nzE m2.se 40 } := M3.se K2.out (nzE m2.se 40); have h96 : (w3.setCell ⟨w.heap.size, 100, none⟩ (.int .i64 (nzE m2.se 40))).cell? ⟨w.heap.size, 96, none⟩ = some (.int .i64 m2.ga) := M4.A.cga (K2.out.se _); have h99 : (w3.setCell ⟨w.heap.size, 100, none⟩ (.int .i64 (nzE m2.se 40))).cell? ⟨w.heap.size, 99, none⟩ = some (.int .i64 m2.er) := M4.A.cer (K2.out.se _); have M4 := hid M4; have LT3 := hid M3.lt; have O3 := hid hO; clear hO hB
      refine hK.out _ _ ⟨d96, d99⟩ (fun hHeld => ?_)
      clear hK K
      try simp only [List.getElem_toArray, List.getElem_cons_zero, List.getElem_cons_succ, Act.put, List.setIfInBounds_toArray, List.set_cons_zero, List.set_cons_succ]
      refine wpAnyH_take (i := 9) (v := ?_) rfl (by kernel_rfl) (by kernel_rfl) (by kernel_rfl) (fun _ _ _ h => h) (Or.inl ⟨by rfl, ?_⟩) hHeld ?_
      rotate_left
      · intro w hSw; obtain ⟨hS1, hS2⟩ := hSw; go_simp
        try with_reducible rfl
      try simp only [List.getElem_toArray, List.getElem_cons_zero, List.getElem_cons_succ, Act.put, List.setIfInBounds_toArray, List.set_cons_zero, List.set_cons_succ]
      refine wpAnyH_take (i := 10) (v := ?_) rfl (by kernel_rfl) (by kernel_rfl) (by kernel_rfl) (fun _ _ _ h => h) (Or.inl ⟨by rfl, ?_⟩) hHeld ?_
      rotate_left
      · intro w hSw; obtain ⟨hS1, hS2⟩ := hSw; go_simp
        try with_reducible rfl
      try simp only [List.getElem_toArray, List.getElem_cons_zero, List.getElem_cons_succ, Act.put, List.setIfInBounds_toArray, List.set_cons_zero, List.set_cons_succ]
      refine wpAnyH_take (i := 11) (v := ?_) rfl (by kernel_rfl) (by kernel_rfl) (by kernel_rfl) (fun _ _ _ h => h) (Or.inl ⟨by rfl, ?_⟩) hHeld ?_
      rotate_left
      · intro w hSw; obtain ⟨hS1, hS2⟩ := hSw; go_simp
        try with_reducible rfl
      try simp only [List.getElem_toArray, List.getElem_cons_zero, List.getElem_cons_succ, Act.put, List.setIfInBounds_toArray, List.set_cons_zero, List.set_cons_succ]
      refine wpAnyH_take (i := 12) (v := ?_) rfl (by kernel_rfl) (by kernel_rfl) (by kernel_rfl) (fun _ _ _ h => h) (Or.inl ⟨by rfl, ?_⟩) hHeld ?_
      rotate_left
      · intro w hSw; obtain ⟨hS1, hS2⟩ := hSw; go_simp
        try with_reducible rfl
      try simp only [List.getElem_toArray, List.getElem_cons_zero, List.getElem_cons_succ, Act.put, List.setIfInBounds_toArray, List.set_cons_zero, List.set_cons_succ]
      refine wpAnyH_ready (rs := [13]) (by kernel_rfl) (by simp) ?_
      refine AllReadyH.cons rfl (fun K hK => ?_) AllReadyH.nil
      clear hHeld
      go_simp
      refine hK.out _ _ ⟨h96, h99⟩ (fun hHeld => ?_)
      clear hK K
      try simp only [List.getElem_toArray, List.getElem_cons_zero, List.getElem_cons_succ, Act.put, List.setIfInBounds_toArray, List.set_cons_zero, List.set_cons_succ]
      refine wpAnyH_take (i := 14) (v := ?_) rfl (by kernel_rfl) (by kernel_rfl) (by kernel_rfl) (fun _ _ _ h => h) (Or.inl ⟨by rfl, ?_⟩) hHeld ?_
      rotate_left
      · intro w hSw; obtain ⟨hS1, hS2⟩ := hSw; go_simp
        try with_reducible rfl
      try simp only [List.getElem_toArray, List.getElem_cons_zero, List.getElem_cons_succ, Act.put, List.setIfInBounds_toArray, List.set_cons_zero, List.set_cons_succ]
      refine wpAnyH_done (by kernel_rfl) ?_ _
      clear hHeld
      refine NoPanic.normal ?_
      have O4 := hid (show Own (w3.setCell ⟨w.heap.size, 100, none⟩ (.int .i64 (nzE m2.se 40))) (w.heap.size + 2) A3 c3 (nzL m2.se z 40) from Own.setC (O3.out.more (base' := w.heap.size + 2) (by have := MM.out.lt; exact this)) (by omega) 100 _)
      obtain ⟨W4, hW4⟩ : ∃ W4, W4 = w3.setCell ⟨w.heap.size, 100, none⟩ (.int .i64 (nzE m2.se 40)) := ⟨_, rfl⟩
      clear c96 c99 c100 d96 d99 d100 h96 h99 g100 hq hwz MM KN KF
      rw [← hW4] at M4 O4 ⊢
      clear hW4 M3 O3
      have K3 := hid (K2.out.se (nzE m2.se 40))
      have rg4 : W4.rangeAt w.heap.size 16 (ints m2.e) := M4.out.A.E K3.out
      have c98 : W4.cell? ⟨w.heap.size, 98, none⟩ = some (.int .i64 m2.la) := M4.out.A.cla K3.out
      have c97 : W4.cell? ⟨w.heap.size, 97, none⟩ = some (.int .i64 m2.pi) := M4.out.A.cpi K3.out
      have c99 : W4.cell? ⟨w.heap.size, 99, none⟩ = some (.int .i64 m2.er) := M4.out.A.cer K3.out
      have hu80 := Try.underlying34
      have hi80 : (Try.prog.info? 34).map (·.size) = some (ints m2.e).length := by rw [ints_len, K2.out.e]; exact size80k
      have R4 := hid (show Rs W4.drew W4.drew.heap.size A3 (nzL m2.se z 40) from O4.out.reads)
      simp only [Exit.then]
      go_wp2_with fail
      go_region_held3 (fun w' => w'.rangeAt w.heap.size 16 (ints m2.e) ∧ w'.cell? ⟨w.heap.size, 98, none⟩ = some (.int .i64 m2.la) ∧ w'.cell? ⟨w.heap.size, 97, none⟩ = some (.int .i64 m2.pi) ∧ w'.cell? ⟨w.heap.size, 99, none⟩ = some (.int .i64 m2.er)) (first | exact ⟨by assumption, by assumption, by assumption, by assumption⟩ | go_keep) (first
        | (go_at_call 88; (with_reducible refine (KG.out _).mono ?_); rintro e' w' ⟨rfl, rfl⟩)
        | (go_at_call 89; (with_reducible refine (KM.out W4.drew A3 c3 R4.out).mono ?_); rintro e' w5 ⟨A5, c5, rfl, hO, hB⟩; have M5 : Ms w w5 { m2 with se := nzE m2.se 40 } := M4.out.drew.below hB; have rg5 : w5.rangeAt w.heap.size 16 (ints m2.e) := M5.A.E K3.out; have d98 : w5.cell? ⟨w.heap.size, 98, none⟩ = some (.int .i64 m2.la) := M5.A.cla K3.out; have d97 : w5.cell? ⟨w.heap.size, 97, none⟩ = some (.int .i64 m2.pi) := M5.A.cpi K3.out; have d99 : w5.cell? ⟨w.heap.size, 99, none⟩ = some (.int .i64 m2.er) := M5.A.cer K3.out; have M5 := hid M5; have O5 := hid (hO.more (base' := w.heap.size + 2) (by have := M4.out.lt; exact this)); clear hO hB))
      rename_i hHeldZ
      clear hHeldZ
      clear rg4 c98 c97 c99 rg5 d98 d97 d99 hu80 M4 O4 R4 KM KG
      have KL := hid (keepL_len K2.out.e XL.out)
      have KK := hid (fun W A c (h : Rs W W.heap.size A x) => show Calls Try.prog 90 #[.agg (ints m2.e).toArray, .slice A 40 c] W (Keeps W m2.e x 40) from keep_any m2.e _ A c 40 W K2.out.e h XL.out (by omega))
      have HI80 := hid hi80
      clear hi80
      simp only [Exit.then]
      go_wp2_with (refine wpList_load_mid rfl 34 (.tmp 61) rfl _ _ rfl (ints m2.e) _ (M5.out.A.E K3.out) Try.underlying34 rfl HI80.out ?_)
      refine (KK.out w5 A5 c5 O5.out.reads).mono ?_
      rintro e w6 ⟨rfl, hB⟩
      have M6 := hid (M5.out.below hB)
      have O6 := hid (O5.out.below hB)
      clear hB M5 O5 KK
      have hKE := hid (show keepA m2.e x 40 = keepL m2.e x from rfl)
      rw [hKE.out]
      have M7 := hid (M6.out.ex K3.out _ KL.out)
      have O7 := hid (Own.setCs (g := w.heap.size) (by omega) (ints (keepL m2.e x)) 16 _ O6.out)
      have SZ := hid (show (Try.prog.info? 34).map (·.size) = some (agi (keepL m2.e x)).size from by rw [agi_size, KL.out]; exact size80k)
      have TH := hid (show w6.there w.heap.size 16 (agi (keepL m2.e x)).size from by rw [agi_size, KL.out]; exact M6.out.A.thereE K3.out)
      have OKS := hid (show (eraN m2).ok by rw [EN.out]; exact (K3.out.ex KL.out))
      obtain ⟨w7, hw7⟩ : ∃ w7, w7 = w6.setCells w.heap.size 16 (ints (keepL m2.e x)) := ⟨_, rfl⟩
      rw [← hw7] at M7 O7
      have HW7 := hid hw7
      have T7 := hid (show Ms w w7 (eraN m2) by rw [EN.out]; exact M7.out)
      clear hw7 M7 EN
      have hRow := hid (MB.setRow T7.out.R (eraN m2))
      have FIN := hid (below_setRow T7.out.bel (g := w.heap.size + 1) (by omega) (eraN m2).ag)
      have OF := hid ((O7.out.setRow (g := w.heap.size + 1) (by omega) (eraN m2).ag).more (base' := w.heap.size) (by omega))
      go_wp2_with (first
        | (refine wpList_store_mid rfl 34 (.tmp 67) (.tmp 65) rfl w.heap.size 16 (agi (keepL m2.e x)) rfl rfl TH.out SZ.out (agi_one _) ?_; rw [show (agi (keepL m2.e x)).toList = ints (keepL m2.e x) from rfl, ← HW7.out])
        | (refine wpList_loadM rfl (.tmp 2) rfl _ (eraN m2) rfl T7.out.A OKS.out ?_)
        | (refine wpList_storeM rfl (.tmp 4) (.tmp 68) rfl _ zeroM (eraN m2) rfl rfl T7.out.R zeroM_ok OKS.out ?_))
      refine bodyPost_ret (v := _) (hR _ _ _ (eraN m2) rfl hRow.out OKS.out) rfl ?_
      rw [FR.out, FY.out, HE.out]
      exact ⟨A5, c5, by rw [XL.out]; rfl, OF.out, FIN.out⟩

    · clear hHeld
      go_simp
      go_at_call 88
      (with_reducible refine (KF.out _).mono ?_)
      rintro e' w' ⟨rfl, rfl⟩
      refine hK.out _ _ ⟨c96, c99⟩ (fun hHeld => ?_)
      clear hK K
      try simp only [List.getElem_toArray, List.getElem_cons_zero, List.getElem_cons_succ, Act.put, List.setIfInBounds_toArray, List.set_cons_zero, List.set_cons_succ]
      refine wpAnyH_take (i := 7) (v := ?_) rfl (by kernel_rfl) (by kernel_rfl) (by kernel_rfl) (fun _ _ _ h => h) (Or.inl ⟨by rfl, ?_⟩) hHeld ?_
      rotate_left
      · intro w hSw; obtain ⟨hS1, hS2⟩ := hSw; go_simp
        try with_reducible rfl
      try simp only [List.getElem_toArray, List.getElem_cons_zero, List.getElem_cons_succ, Act.put, List.setIfInBounds_toArray, List.set_cons_zero, List.set_cons_succ]
      refine wpAnyH_ready (rs := [1]) (by kernel_rfl) (by simp) ?_
      refine AllReadyH.cons rfl (fun K hK => ?_) AllReadyH.nil
      clear hHeld
      go_simp
      refine hK.out _ _ ⟨c96, c99⟩ (fun hHeld => ?_)
      clear hK K
      try simp only [List.getElem_toArray, List.getElem_cons_zero, List.getElem_cons_succ, Act.put, List.setIfInBounds_toArray, List.set_cons_zero, List.set_cons_succ]
      refine wpAnyH_ready (rs := [8]) (by kernel_rfl) (by simp) ?_
      refine AllReadyH.cons rfl (fun K hK => ?_) AllReadyH.nil
      clear hHeld
      go_simp
      go_at_call 87
      (with_reducible refine (KN.out W2.drew).mono ?_)
      rintro e' w3 ⟨A3, c3, rfl, hO, hB⟩; have M3 : Ms w w3 m2 := MM.out.drew.below hB; have d96 : w3.cell? ⟨w.heap.size, 96, none⟩ = some (.int .i64 m2.ga) := M3.A.cga K2.out; have d99 : w3.cell? ⟨w.heap.size, 99, none⟩ = some (.int .i64 m2.er) := M3.A.cer K2.out; have d100 : w3.cell? ⟨w.heap.size, 100, none⟩ = some (.int .i64 m2.se) := M3.A.cse K2.out; have g100 : w3.frozen? ⟨w.heap.size, 100, none⟩ = false := MB.frozen M3.A 100; have M4 : Ms w (w3.setCell ⟨w.heap.size, 100, none⟩ (.int .i64 (nzE m2.se 40))) { m2 with se := nzE m2.se 40 } := M3.se K2.out (nzE m2.se 40); have h96 : (w3.setCell ⟨w.heap.size, 100, none⟩ (.int .i64 (nzE m2.se 40))).cell? ⟨w.heap.size, 96, none⟩ = some (.int .i64 m2.ga) := M4.A.cga (K2.out.se _); have h99 : (w3.setCell ⟨w.heap.size, 100, none⟩ (.int .i64 (nzE m2.se 40))).cell? ⟨w.heap.size, 99, none⟩ = some (.int .i64 m2.er) := M4.A.cer (K2.out.se _); have M4 := hid M4; have LT3 := hid M3.lt; have O3 := hid hO; clear hO hB
      refine hK.out _ _ ⟨d96, d99⟩ (fun hHeld => ?_)
      clear hK K
      try simp only [List.getElem_toArray, List.getElem_cons_zero, List.getElem_cons_succ, Act.put, List.setIfInBounds_toArray, List.set_cons_zero, List.set_cons_succ]
      refine wpAnyH_take (i := 9) (v := ?_) rfl (by kernel_rfl) (by kernel_rfl) (by kernel_rfl) (fun _ _ _ h => h) (Or.inl ⟨by rfl, ?_⟩) hHeld ?_
      rotate_left
      · intro w hSw; obtain ⟨hS1, hS2⟩ := hSw; go_simp
        try with_reducible rfl
      try simp only [List.getElem_toArray, List.getElem_cons_zero, List.getElem_cons_succ, Act.put, List.setIfInBounds_toArray, List.set_cons_zero, List.set_cons_succ]
      refine wpAnyH_take (i := 10) (v := ?_) rfl (by kernel_rfl) (by kernel_rfl) (by kernel_rfl) (fun _ _ _ h => h) (Or.inl ⟨by rfl, ?_⟩) hHeld ?_
      rotate_left
      · intro w hSw; obtain ⟨hS1, hS2⟩ := hSw; go_simp
        try with_reducible rfl
      try simp only [List.getElem_toArray, List.getElem_cons_zero, List.getElem_cons_succ, Act.put, List.setIfInBounds_toArray, List.set_cons_zero, List.set_cons_succ]
      refine wpAnyH_take (i := 11) (v := ?_) rfl (by kernel_rfl) (by kernel_rfl) (by kernel_rfl) (fun _ _ _ h => h) (Or.inl ⟨by rfl, ?_⟩) hHeld ?_
      rotate_left
      · intro w hSw; obtain ⟨hS1, hS2⟩ := hSw; go_simp
        try with_reducible rfl
      try simp only [List.getElem_toArray, List.getElem_cons_zero, List.getElem_cons_succ, Act.put, List.setIfInBounds_toArray, List.set_cons_zero, List.set_cons_succ]
      refine wpAnyH_take (i := 12) (v := ?_) rfl (by kernel_rfl) (by kernel_rfl) (by kernel_rfl) (fun _ _ _ h => h) (Or.inl ⟨by rfl, ?_⟩) hHeld ?_
      rotate_left
      · intro w hSw; obtain ⟨hS1, hS2⟩ := hSw; go_simp
        try with_reducible rfl
      try simp only [List.getElem_toArray, List.getElem_cons_zero, List.getElem_cons_succ, Act.put, List.setIfInBounds_toArray, List.set_cons_zero, List.set_cons_succ]
      refine wpAnyH_ready (rs := [13]) (by kernel_rfl) (by simp) ?_
      refine AllReadyH.cons rfl (fun K hK => ?_) AllReadyH.nil
      clear hHeld
      go_simp
      refine hK.out _ _ ⟨h96, h99⟩ (fun hHeld => ?_)
      clear hK K
      try simp only [List.getElem_toArray, List.getElem_cons_zero, List.getElem_cons_succ, Act.put, List.setIfInBounds_toArray, List.set_cons_zero, List.set_cons_succ]
      refine wpAnyH_take (i := 14) (v := ?_) rfl (by kernel_rfl) (by kernel_rfl) (by kernel_rfl) (fun _ _ _ h => h) (Or.inl ⟨by rfl, ?_⟩) hHeld ?_
      rotate_left
      · intro w hSw; obtain ⟨hS1, hS2⟩ := hSw; go_simp
        try with_reducible rfl
      try simp only [List.getElem_toArray, List.getElem_cons_zero, List.getElem_cons_succ, Act.put, List.setIfInBounds_toArray, List.set_cons_zero, List.set_cons_succ]
      refine wpAnyH_done (by kernel_rfl) ?_ _
      clear hHeld
      refine NoPanic.normal ?_
      have O4 := hid (show Own (w3.setCell ⟨w.heap.size, 100, none⟩ (.int .i64 (nzE m2.se 40))) (w.heap.size + 2) A3 c3 (nzL m2.se z 40) from Own.setC (O3.out.more (base' := w.heap.size + 2) (by have := MM.out.lt; exact this)) (by omega) 100 _)
      obtain ⟨W4, hW4⟩ : ∃ W4, W4 = w3.setCell ⟨w.heap.size, 100, none⟩ (.int .i64 (nzE m2.se 40)) := ⟨_, rfl⟩
      clear c96 c99 c100 d96 d99 d100 h96 h99 g100 hq hwz MM KN KF
      rw [← hW4] at M4 O4 ⊢
      clear hW4 M3 O3
      have K3 := hid (K2.out.se (nzE m2.se 40))
      have rg4 : W4.rangeAt w.heap.size 16 (ints m2.e) := M4.out.A.E K3.out
      have c98 : W4.cell? ⟨w.heap.size, 98, none⟩ = some (.int .i64 m2.la) := M4.out.A.cla K3.out
      have c97 : W4.cell? ⟨w.heap.size, 97, none⟩ = some (.int .i64 m2.pi) := M4.out.A.cpi K3.out
      have c99 : W4.cell? ⟨w.heap.size, 99, none⟩ = some (.int .i64 m2.er) := M4.out.A.cer K3.out
      have hu80 := Try.underlying34
      have hi80 : (Try.prog.info? 34).map (·.size) = some (ints m2.e).length := by rw [ints_len, K2.out.e]; exact size80k
      have R4 := hid (show Rs W4.drew W4.drew.heap.size A3 (nzL m2.se z 40) from O4.out.reads)
      simp only [Exit.then]
      go_wp2_with fail
      go_region_held3 (fun w' => w'.rangeAt w.heap.size 16 (ints m2.e) ∧ w'.cell? ⟨w.heap.size, 98, none⟩ = some (.int .i64 m2.la) ∧ w'.cell? ⟨w.heap.size, 97, none⟩ = some (.int .i64 m2.pi) ∧ w'.cell? ⟨w.heap.size, 99, none⟩ = some (.int .i64 m2.er)) (first | exact ⟨by assumption, by assumption, by assumption, by assumption⟩ | go_keep) (first
        | (go_at_call 88; (with_reducible refine (KG.out _).mono ?_); rintro e' w' ⟨rfl, rfl⟩)
        | (go_at_call 89; (with_reducible refine (KM.out W4.drew A3 c3 R4.out).mono ?_); rintro e' w5 ⟨A5, c5, rfl, hO, hB⟩; have M5 : Ms w w5 { m2 with se := nzE m2.se 40 } := M4.out.drew.below hB; have rg5 : w5.rangeAt w.heap.size 16 (ints m2.e) := M5.A.E K3.out; have d98 : w5.cell? ⟨w.heap.size, 98, none⟩ = some (.int .i64 m2.la) := M5.A.cla K3.out; have d97 : w5.cell? ⟨w.heap.size, 97, none⟩ = some (.int .i64 m2.pi) := M5.A.cpi K3.out; have d99 : w5.cell? ⟨w.heap.size, 99, none⟩ = some (.int .i64 m2.er) := M5.A.cer K3.out; have M5 := hid M5; have O5 := hid (hO.more (base' := w.heap.size + 2) (by have := M4.out.lt; exact this)); clear hO hB))
      rename_i hHeldZ
      clear hHeldZ
      clear rg4 c98 c97 c99 rg5 d98 d97 d99 hu80 M4 O4 R4 KM KG
      have KL := hid (keepL_len K2.out.e XL.out)
      have KK := hid (fun W A c (h : Rs W W.heap.size A x) => show Calls Try.prog 90 #[.agg (ints m2.e).toArray, .slice A 40 c] W (Keeps W m2.e x 40) from keep_any m2.e _ A c 40 W K2.out.e h XL.out (by omega))
      have HI80 := hid hi80
      clear hi80
      simp only [Exit.then]
      go_wp2_with (refine wpList_load_mid rfl 34 (.tmp 61) rfl _ _ rfl (ints m2.e) _ (M5.out.A.E K3.out) Try.underlying34 rfl HI80.out ?_)
      refine (KK.out w5 A5 c5 O5.out.reads).mono ?_
      rintro e w6 ⟨rfl, hB⟩
      have M6 := hid (M5.out.below hB)
      have O6 := hid (O5.out.below hB)
      clear hB M5 O5 KK
      have hKE := hid (show keepA m2.e x 40 = keepL m2.e x from rfl)
      rw [hKE.out]
      have M7 := hid (M6.out.ex K3.out _ KL.out)
      have O7 := hid (Own.setCs (g := w.heap.size) (by omega) (ints (keepL m2.e x)) 16 _ O6.out)
      have SZ := hid (show (Try.prog.info? 34).map (·.size) = some (agi (keepL m2.e x)).size from by rw [agi_size, KL.out]; exact size80k)
      have TH := hid (show w6.there w.heap.size 16 (agi (keepL m2.e x)).size from by rw [agi_size, KL.out]; exact M6.out.A.thereE K3.out)
      have OKS := hid (show (eraN m2).ok by rw [EN.out]; exact (K3.out.ex KL.out))
      obtain ⟨w7, hw7⟩ : ∃ w7, w7 = w6.setCells w.heap.size 16 (ints (keepL m2.e x)) := ⟨_, rfl⟩
      rw [← hw7] at M7 O7
      have HW7 := hid hw7
      have T7 := hid (show Ms w w7 (eraN m2) by rw [EN.out]; exact M7.out)
      clear hw7 M7 EN
      have hRow := hid (MB.setRow T7.out.R (eraN m2))
      have FIN := hid (below_setRow T7.out.bel (g := w.heap.size + 1) (by omega) (eraN m2).ag)
      have OF := hid ((O7.out.setRow (g := w.heap.size + 1) (by omega) (eraN m2).ag).more (base' := w.heap.size) (by omega))
      go_wp2_with (first
        | (refine wpList_store_mid rfl 34 (.tmp 67) (.tmp 65) rfl w.heap.size 16 (agi (keepL m2.e x)) rfl rfl TH.out SZ.out (agi_one _) ?_; rw [show (agi (keepL m2.e x)).toList = ints (keepL m2.e x) from rfl, ← HW7.out])
        | (refine wpList_loadM rfl (.tmp 2) rfl _ (eraN m2) rfl T7.out.A OKS.out ?_)
        | (refine wpList_storeM rfl (.tmp 4) (.tmp 68) rfl _ zeroM (eraN m2) rfl rfl T7.out.R zeroM_ok OKS.out ?_))
      refine bodyPost_ret (v := _) (hR _ _ _ (eraN m2) rfl hRow.out OKS.out) rfl ?_
      rw [FR.out, FY.out, HE.out]
      exact ⟨A5, c5, by rw [XL.out]; rfl, OF.out, FIN.out⟩
  · have h6' := hid h6
    have a6 : w1.cell? ⟨w.heap.size, 99, none⟩ = some (.int .i64 6) := by rw [a5, h6]
    have MM := hid (show Ms w (w1.setCell ⟨w.heap.size, 99, none⟩ (.int .i64 6)) m2 by
      have := S1.out.er K.out 6
      rw [hm2]
      unfold eraP er1
      rw [if_neg (by omega), h6]
      exact this)
    clear hm2 h1 h2 h6 a5
    go_wp2_with fail
    obtain ⟨W2, hW2⟩ : ∃ W2, W2 = w1.setCell ⟨w.heap.size, 99, none⟩ (.int .i64 6) := ⟨_, rfl⟩
    rw [← hW2] at MM ⊢
    clear hW2 a6 f5 h6'
    have c96 : W2.cell? ⟨w.heap.size, 96, none⟩ = some (.int .i64 m2.ga) := MM.out.A.cga K2.out
    have c99 : W2.cell? ⟨w.heap.size, 99, none⟩ = some (.int .i64 m2.er) := MM.out.A.cer K2.out
    have c100 : W2.cell? ⟨w.heap.size, 100, none⟩ = some (.int .i64 m2.se) := MM.out.A.cse K2.out
    have KN := hid (fun W => show Calls Try.prog 87 #[.int .i64 m2.se, .int .i64 (eraZ m2), .int .i64 40] W (NzA W m2.se (eraZ m2) 40) from cnoise_any m2.se (eraZ m2) 40 W (by omega))
    have KM := hid (fun W A c (hr : Rs W W.heap.size A (nzL m2.se (eraZ m2) 40)) => show Calls Try.prog 89 #[.agg (ints m2.e).toArray, .int .i64 m2.la, .int .i64 (fade m2.pi m2.er), .slice A 40 c] W (fun e w' => ∃ A c, e = .returned (.tuple #[.slice A 40 c, .int .i64 0]) ∧ Own w' W.heap.size A c (eraX m2) ∧ Below W.heap.size W w') from by
      refine (mix_any m2.e _ m2.la (fade m2.pi m2.er) A c 40 W K2.out.e hr (nzL_len _ _ _) (by omega)).mono ?_
      rintro e w' ⟨A', c', h1, h2, h3⟩
      rw [(mx_good (h := m2.e) (x := nzL m2.se (eraZ m2) 40) (eraX_good HLA.out)).2] at h1
      have hl := eraX_len HLA.out
      unfold eraX at hl
      rw [hl] at h1
      exact ⟨A', c', h1, h2, h3⟩)
    have XL := hid (eraX_len HLA.out)
    have EN := hid (show eraN m2 = { m2 with se := nzE m2.se 40, e := keepL m2.e (eraX m2) } from rfl)
    have KF0 := fun W => fade_any m2.ga m2.er W
    have KG0 := fun W => fade_any m2.pi m2.er W
    have fb := fade_range m2.ga m2.er
    have hwz : IntKind.i64.wrap (eraZ m2) = eraZ m2 := by unfold eraZ; rw [IntKind.wrap_i64]; omega
    have hq : (fade m2.ga m2.er).tdiv 4 = eraZ m2 := by unfold eraZ; exact Int.tdiv_eq_ediv_of_nonneg fb.1
    generalize eraX m2 = x at *
    generalize eraZ m2 = z at *
    generalize fade m2.ga m2.er = f at *
    generalize fade m2.pi m2.er = f2 at *
    have KF := hid KF0
    have KG := hid KG0
    clear KF0 KG0 fb
    refine wp_region_noPanic ?_
    refine wp_region_held_drew (S := fun w' => w'.cell? ⟨w.heap.size, 96, none⟩ = some (.int .i64 m2.ga) ∧ w'.cell? ⟨w.heap.size, 99, none⟩ = some (.int .i64 m2.er)) (by kernel_rfl) ⟨c96, c99⟩ (fun hHeld => ?_)
    refine wpAnyH_take (i := 0) (v := ?_) rfl (by kernel_rfl) (by kernel_rfl) (by kernel_rfl) (fun _ _ _ h => h) (Or.inl ⟨by rfl, ?_⟩) hHeld ?_
    rotate_left
    · intro w hSw; obtain ⟨hS1, hS2⟩ := hSw; go_simp
      try with_reducible rfl
    try simp only [List.getElem_toArray, List.getElem_cons_zero, List.getElem_cons_succ, Act.put, List.setIfInBounds_toArray, List.set_cons_zero, List.set_cons_succ]
    refine wpAnyH_take (i := 2) (v := ?_) rfl (by kernel_rfl) (by kernel_rfl) (by kernel_rfl) (fun _ _ _ h => h) (Or.inl ⟨by rfl, ?_⟩) hHeld ?_
    rotate_left
    · intro w hSw; obtain ⟨hS1, hS2⟩ := hSw; go_simp
      try with_reducible rfl
    try simp only [List.getElem_toArray, List.getElem_cons_zero, List.getElem_cons_succ, Act.put, List.setIfInBounds_toArray, List.set_cons_zero, List.set_cons_succ]
    refine wpAnyH_take (i := 3) (v := ?_) rfl (by kernel_rfl) (by kernel_rfl) (by kernel_rfl) (fun _ _ _ h => h) (Or.inl ⟨by rfl, ?_⟩) hHeld ?_
    rotate_left
    · intro w hSw; obtain ⟨hS1, hS2⟩ := hSw; go_simp
      try with_reducible rfl
    try simp only [List.getElem_toArray, List.getElem_cons_zero, List.getElem_cons_succ, Act.put, List.setIfInBounds_toArray, List.set_cons_zero, List.set_cons_succ]
    refine wpAnyH_take (i := 4) (v := ?_) rfl (by kernel_rfl) (by kernel_rfl) (by kernel_rfl) (fun _ _ _ h => h) (Or.inl ⟨by rfl, ?_⟩) hHeld ?_
    rotate_left
    · intro w hSw; obtain ⟨hS1, hS2⟩ := hSw; go_simp
      try with_reducible rfl
    try simp only [List.getElem_toArray, List.getElem_cons_zero, List.getElem_cons_succ, Act.put, List.setIfInBounds_toArray, List.set_cons_zero, List.set_cons_succ]
    refine wpAnyH_take (i := 5) (v := ?_) rfl (by kernel_rfl) (by kernel_rfl) (by kernel_rfl) (fun _ _ _ h => h) (Or.inl ⟨by rfl, ?_⟩) hHeld ?_
    rotate_left
    · intro w hSw; obtain ⟨hS1, hS2⟩ := hSw; go_simp
      try with_reducible rfl
    try simp only [List.getElem_toArray, List.getElem_cons_zero, List.getElem_cons_succ, Act.put, List.setIfInBounds_toArray, List.set_cons_zero, List.set_cons_succ]
    refine wpAnyH_ready (rs := [1, 6]) (by kernel_rfl) (by simp) ?_
    refine AllReadyH.cons rfl (fun K hK => ?_) (AllReadyH.cons rfl (fun K hK => ?_) AllReadyH.nil)
    · clear hHeld
      go_simp
      refine hK.out _ _ ⟨c96, c99⟩ (fun hHeld => ?_)
      clear hK K
      try simp only [List.getElem_toArray, List.getElem_cons_zero, List.getElem_cons_succ, Act.put, List.setIfInBounds_toArray, List.set_cons_zero, List.set_cons_succ]
      refine wpAnyH_ready (rs := [6]) (by kernel_rfl) (by simp) ?_
      refine AllReadyH.cons rfl (fun K hK => ?_) AllReadyH.nil
      clear hHeld
      go_simp
      go_at_call 88
      (with_reducible refine (KF.out _).mono ?_)
      rintro e' w' ⟨rfl, rfl⟩
      refine hK.out _ _ ⟨c96, c99⟩ (fun hHeld => ?_)
      clear hK K
      try simp only [List.getElem_toArray, List.getElem_cons_zero, List.getElem_cons_succ, Act.put, List.setIfInBounds_toArray, List.set_cons_zero, List.set_cons_succ]
      refine wpAnyH_take (i := 7) (v := ?_) rfl (by kernel_rfl) (by kernel_rfl) (by kernel_rfl) (fun _ _ _ h => h) (Or.inl ⟨by rfl, ?_⟩) hHeld ?_
      rotate_left
      · intro w hSw; obtain ⟨hS1, hS2⟩ := hSw; go_simp
        try with_reducible rfl
      try simp only [List.getElem_toArray, List.getElem_cons_zero, List.getElem_cons_succ, Act.put, List.setIfInBounds_toArray, List.set_cons_zero, List.set_cons_succ]
      refine wpAnyH_ready (rs := [8]) (by kernel_rfl) (by simp) ?_
      refine AllReadyH.cons rfl (fun K hK => ?_) AllReadyH.nil
      clear hHeld
      go_simp
      go_at_call 87
      (with_reducible refine (KN.out W2.drew).mono ?_)
      rintro e' w3 ⟨A3, c3, rfl, hO, hB⟩; have M3 : Ms w w3 m2 := MM.out.drew.below hB; have d96 : w3.cell? ⟨w.heap.size, 96, none⟩ = some (.int .i64 m2.ga) := M3.A.cga K2.out; have d99 : w3.cell? ⟨w.heap.size, 99, none⟩ = some (.int .i64 m2.er) := M3.A.cer K2.out; have d100 : w3.cell? ⟨w.heap.size, 100, none⟩ = some (.int .i64 m2.se) := M3.A.cse K2.out; have g100 : w3.frozen? ⟨w.heap.size, 100, none⟩ = false := MB.frozen M3.A 100; have M4 : Ms w (w3.setCell ⟨w.heap.size, 100, none⟩ (.int .i64 (nzE m2.se 40))) { m2 with se := nzE m2.se 40 } := M3.se K2.out (nzE m2.se 40); have h96 : (w3.setCell ⟨w.heap.size, 100, none⟩ (.int .i64 (nzE m2.se 40))).cell? ⟨w.heap.size, 96, none⟩ = some (.int .i64 m2.ga) := M4.A.cga (K2.out.se _); have h99 : (w3.setCell ⟨w.heap.size, 100, none⟩ (.int .i64 (nzE m2.se 40))).cell? ⟨w.heap.size, 99, none⟩ = some (.int .i64 m2.er) := M4.A.cer (K2.out.se _); have M4 := hid M4; have LT3 := hid M3.lt; have O3 := hid hO; clear hO hB
      refine hK.out _ _ ⟨d96, d99⟩ (fun hHeld => ?_)
      clear hK K
      try simp only [List.getElem_toArray, List.getElem_cons_zero, List.getElem_cons_succ, Act.put, List.setIfInBounds_toArray, List.set_cons_zero, List.set_cons_succ]
      refine wpAnyH_take (i := 9) (v := ?_) rfl (by kernel_rfl) (by kernel_rfl) (by kernel_rfl) (fun _ _ _ h => h) (Or.inl ⟨by rfl, ?_⟩) hHeld ?_
      rotate_left
      · intro w hSw; obtain ⟨hS1, hS2⟩ := hSw; go_simp
        try with_reducible rfl
      try simp only [List.getElem_toArray, List.getElem_cons_zero, List.getElem_cons_succ, Act.put, List.setIfInBounds_toArray, List.set_cons_zero, List.set_cons_succ]
      refine wpAnyH_take (i := 10) (v := ?_) rfl (by kernel_rfl) (by kernel_rfl) (by kernel_rfl) (fun _ _ _ h => h) (Or.inl ⟨by rfl, ?_⟩) hHeld ?_
      rotate_left
      · intro w hSw; obtain ⟨hS1, hS2⟩ := hSw; go_simp
        try with_reducible rfl
      try simp only [List.getElem_toArray, List.getElem_cons_zero, List.getElem_cons_succ, Act.put, List.setIfInBounds_toArray, List.set_cons_zero, List.set_cons_succ]
      refine wpAnyH_take (i := 11) (v := ?_) rfl (by kernel_rfl) (by kernel_rfl) (by kernel_rfl) (fun _ _ _ h => h) (Or.inl ⟨by rfl, ?_⟩) hHeld ?_
      rotate_left
      · intro w hSw; obtain ⟨hS1, hS2⟩ := hSw; go_simp
        try with_reducible rfl
      try simp only [List.getElem_toArray, List.getElem_cons_zero, List.getElem_cons_succ, Act.put, List.setIfInBounds_toArray, List.set_cons_zero, List.set_cons_succ]
      refine wpAnyH_take (i := 12) (v := ?_) rfl (by kernel_rfl) (by kernel_rfl) (by kernel_rfl) (fun _ _ _ h => h) (Or.inl ⟨by rfl, ?_⟩) hHeld ?_
      rotate_left
      · intro w hSw; obtain ⟨hS1, hS2⟩ := hSw; go_simp
        try with_reducible rfl
      try simp only [List.getElem_toArray, List.getElem_cons_zero, List.getElem_cons_succ, Act.put, List.setIfInBounds_toArray, List.set_cons_zero, List.set_cons_succ]
      refine wpAnyH_ready (rs := [13]) (by kernel_rfl) (by simp) ?_
      refine AllReadyH.cons rfl (fun K hK => ?_) AllReadyH.nil
      clear hHeld
      go_simp
      refine hK.out _ _ ⟨h96, h99⟩ (fun hHeld => ?_)
      clear hK K
      try simp only [List.getElem_toArray, List.getElem_cons_zero, List.getElem_cons_succ, Act.put, List.setIfInBounds_toArray, List.set_cons_zero, List.set_cons_succ]
      refine wpAnyH_take (i := 14) (v := ?_) rfl (by kernel_rfl) (by kernel_rfl) (by kernel_rfl) (fun _ _ _ h => h) (Or.inl ⟨by rfl, ?_⟩) hHeld ?_
      rotate_left
      · intro w hSw; obtain ⟨hS1, hS2⟩ := hSw; go_simp
        try with_reducible rfl
      try simp only [List.getElem_toArray, List.getElem_cons_zero, List.getElem_cons_succ, Act.put, List.setIfInBounds_toArray, List.set_cons_zero, List.set_cons_succ]
      refine wpAnyH_done (by kernel_rfl) ?_ _
      clear hHeld
      refine NoPanic.normal ?_
      have O4 := hid (show Own (w3.setCell ⟨w.heap.size, 100, none⟩ (.int .i64 (nzE m2.se 40))) (w.heap.size + 2) A3 c3 (nzL m2.se z 40) from Own.setC (O3.out.more (base' := w.heap.size + 2) (by have := MM.out.lt; exact this)) (by omega) 100 _)
      obtain ⟨W4, hW4⟩ : ∃ W4, W4 = w3.setCell ⟨w.heap.size, 100, none⟩ (.int .i64 (nzE m2.se 40)) := ⟨_, rfl⟩
      clear c96 c99 c100 d96 d99 d100 h96 h99 g100 hq hwz MM KN KF
      rw [← hW4] at M4 O4 ⊢
      clear hW4 M3 O3
      have K3 := hid (K2.out.se (nzE m2.se 40))
      have rg4 : W4.rangeAt w.heap.size 16 (ints m2.e) := M4.out.A.E K3.out
      have c98 : W4.cell? ⟨w.heap.size, 98, none⟩ = some (.int .i64 m2.la) := M4.out.A.cla K3.out
      have c97 : W4.cell? ⟨w.heap.size, 97, none⟩ = some (.int .i64 m2.pi) := M4.out.A.cpi K3.out
      have c99 : W4.cell? ⟨w.heap.size, 99, none⟩ = some (.int .i64 m2.er) := M4.out.A.cer K3.out
      have hu80 := Try.underlying34
      have hi80 : (Try.prog.info? 34).map (·.size) = some (ints m2.e).length := by rw [ints_len, K2.out.e]; exact size80k
      have R4 := hid (show Rs W4.drew W4.drew.heap.size A3 (nzL m2.se z 40) from O4.out.reads)
      simp only [Exit.then]
      go_wp2_with fail
      go_region_held3 (fun w' => w'.rangeAt w.heap.size 16 (ints m2.e) ∧ w'.cell? ⟨w.heap.size, 98, none⟩ = some (.int .i64 m2.la) ∧ w'.cell? ⟨w.heap.size, 97, none⟩ = some (.int .i64 m2.pi) ∧ w'.cell? ⟨w.heap.size, 99, none⟩ = some (.int .i64 m2.er)) (first | exact ⟨by assumption, by assumption, by assumption, by assumption⟩ | go_keep) (first
        | (go_at_call 88; (with_reducible refine (KG.out _).mono ?_); rintro e' w' ⟨rfl, rfl⟩)
        | (go_at_call 89; (with_reducible refine (KM.out W4.drew A3 c3 R4.out).mono ?_); rintro e' w5 ⟨A5, c5, rfl, hO, hB⟩; have M5 : Ms w w5 { m2 with se := nzE m2.se 40 } := M4.out.drew.below hB; have rg5 : w5.rangeAt w.heap.size 16 (ints m2.e) := M5.A.E K3.out; have d98 : w5.cell? ⟨w.heap.size, 98, none⟩ = some (.int .i64 m2.la) := M5.A.cla K3.out; have d97 : w5.cell? ⟨w.heap.size, 97, none⟩ = some (.int .i64 m2.pi) := M5.A.cpi K3.out; have d99 : w5.cell? ⟨w.heap.size, 99, none⟩ = some (.int .i64 m2.er) := M5.A.cer K3.out; have M5 := hid M5; have O5 := hid (hO.more (base' := w.heap.size + 2) (by have := M4.out.lt; exact this)); clear hO hB))
      rename_i hHeldZ
      clear hHeldZ
      clear rg4 c98 c97 c99 rg5 d98 d97 d99 hu80 M4 O4 R4 KM KG
      have KL := hid (keepL_len K2.out.e XL.out)
      have KK := hid (fun W A c (h : Rs W W.heap.size A x) => show Calls Try.prog 90 #[.agg (ints m2.e).toArray, .slice A 40 c] W (Keeps W m2.e x 40) from keep_any m2.e _ A c 40 W K2.out.e h XL.out (by omega))
      have HI80 := hid hi80
      clear hi80
      simp only [Exit.then]
      go_wp2_with (refine wpList_load_mid rfl 34 (.tmp 61) rfl _ _ rfl (ints m2.e) _ (M5.out.A.E K3.out) Try.underlying34 rfl HI80.out ?_)
      refine (KK.out w5 A5 c5 O5.out.reads).mono ?_
      rintro e w6 ⟨rfl, hB⟩
      have M6 := hid (M5.out.below hB)
      have O6 := hid (O5.out.below hB)
      clear hB M5 O5 KK
      have hKE := hid (show keepA m2.e x 40 = keepL m2.e x from rfl)
      rw [hKE.out]
      have M7 := hid (M6.out.ex K3.out _ KL.out)
      have O7 := hid (Own.setCs (g := w.heap.size) (by omega) (ints (keepL m2.e x)) 16 _ O6.out)
      have SZ := hid (show (Try.prog.info? 34).map (·.size) = some (agi (keepL m2.e x)).size from by rw [agi_size, KL.out]; exact size80k)
      have TH := hid (show w6.there w.heap.size 16 (agi (keepL m2.e x)).size from by rw [agi_size, KL.out]; exact M6.out.A.thereE K3.out)
      have OKS := hid (show (eraN m2).ok by rw [EN.out]; exact (K3.out.ex KL.out))
      obtain ⟨w7, hw7⟩ : ∃ w7, w7 = w6.setCells w.heap.size 16 (ints (keepL m2.e x)) := ⟨_, rfl⟩
      rw [← hw7] at M7 O7
      have HW7 := hid hw7
      have T7 := hid (show Ms w w7 (eraN m2) by rw [EN.out]; exact M7.out)
      clear hw7 M7 EN
      have hRow := hid (MB.setRow T7.out.R (eraN m2))
      have FIN := hid (below_setRow T7.out.bel (g := w.heap.size + 1) (by omega) (eraN m2).ag)
      have OF := hid ((O7.out.setRow (g := w.heap.size + 1) (by omega) (eraN m2).ag).more (base' := w.heap.size) (by omega))
      go_wp2_with (first
        | (refine wpList_store_mid rfl 34 (.tmp 67) (.tmp 65) rfl w.heap.size 16 (agi (keepL m2.e x)) rfl rfl TH.out SZ.out (agi_one _) ?_; rw [show (agi (keepL m2.e x)).toList = ints (keepL m2.e x) from rfl, ← HW7.out])
        | (refine wpList_loadM rfl (.tmp 2) rfl _ (eraN m2) rfl T7.out.A OKS.out ?_)
        | (refine wpList_storeM rfl (.tmp 4) (.tmp 68) rfl _ zeroM (eraN m2) rfl rfl T7.out.R zeroM_ok OKS.out ?_))
      refine bodyPost_ret (v := _) (hR _ _ _ (eraN m2) rfl hRow.out OKS.out) rfl ?_
      rw [FR.out, FY.out, HE.out]
      exact ⟨A5, c5, by rw [XL.out]; rfl, OF.out, FIN.out⟩

    · clear hHeld
      go_simp
      go_at_call 88
      (with_reducible refine (KF.out _).mono ?_)
      rintro e' w' ⟨rfl, rfl⟩
      refine hK.out _ _ ⟨c96, c99⟩ (fun hHeld => ?_)
      clear hK K
      try simp only [List.getElem_toArray, List.getElem_cons_zero, List.getElem_cons_succ, Act.put, List.setIfInBounds_toArray, List.set_cons_zero, List.set_cons_succ]
      refine wpAnyH_take (i := 7) (v := ?_) rfl (by kernel_rfl) (by kernel_rfl) (by kernel_rfl) (fun _ _ _ h => h) (Or.inl ⟨by rfl, ?_⟩) hHeld ?_
      rotate_left
      · intro w hSw; obtain ⟨hS1, hS2⟩ := hSw; go_simp
        try with_reducible rfl
      try simp only [List.getElem_toArray, List.getElem_cons_zero, List.getElem_cons_succ, Act.put, List.setIfInBounds_toArray, List.set_cons_zero, List.set_cons_succ]
      refine wpAnyH_ready (rs := [1]) (by kernel_rfl) (by simp) ?_
      refine AllReadyH.cons rfl (fun K hK => ?_) AllReadyH.nil
      clear hHeld
      go_simp
      refine hK.out _ _ ⟨c96, c99⟩ (fun hHeld => ?_)
      clear hK K
      try simp only [List.getElem_toArray, List.getElem_cons_zero, List.getElem_cons_succ, Act.put, List.setIfInBounds_toArray, List.set_cons_zero, List.set_cons_succ]
      refine wpAnyH_ready (rs := [8]) (by kernel_rfl) (by simp) ?_
      refine AllReadyH.cons rfl (fun K hK => ?_) AllReadyH.nil
      clear hHeld
      go_simp
      go_at_call 87
      (with_reducible refine (KN.out W2.drew).mono ?_)
      rintro e' w3 ⟨A3, c3, rfl, hO, hB⟩; have M3 : Ms w w3 m2 := MM.out.drew.below hB; have d96 : w3.cell? ⟨w.heap.size, 96, none⟩ = some (.int .i64 m2.ga) := M3.A.cga K2.out; have d99 : w3.cell? ⟨w.heap.size, 99, none⟩ = some (.int .i64 m2.er) := M3.A.cer K2.out; have d100 : w3.cell? ⟨w.heap.size, 100, none⟩ = some (.int .i64 m2.se) := M3.A.cse K2.out; have g100 : w3.frozen? ⟨w.heap.size, 100, none⟩ = false := MB.frozen M3.A 100; have M4 : Ms w (w3.setCell ⟨w.heap.size, 100, none⟩ (.int .i64 (nzE m2.se 40))) { m2 with se := nzE m2.se 40 } := M3.se K2.out (nzE m2.se 40); have h96 : (w3.setCell ⟨w.heap.size, 100, none⟩ (.int .i64 (nzE m2.se 40))).cell? ⟨w.heap.size, 96, none⟩ = some (.int .i64 m2.ga) := M4.A.cga (K2.out.se _); have h99 : (w3.setCell ⟨w.heap.size, 100, none⟩ (.int .i64 (nzE m2.se 40))).cell? ⟨w.heap.size, 99, none⟩ = some (.int .i64 m2.er) := M4.A.cer (K2.out.se _); have M4 := hid M4; have LT3 := hid M3.lt; have O3 := hid hO; clear hO hB
      refine hK.out _ _ ⟨d96, d99⟩ (fun hHeld => ?_)
      clear hK K
      try simp only [List.getElem_toArray, List.getElem_cons_zero, List.getElem_cons_succ, Act.put, List.setIfInBounds_toArray, List.set_cons_zero, List.set_cons_succ]
      refine wpAnyH_take (i := 9) (v := ?_) rfl (by kernel_rfl) (by kernel_rfl) (by kernel_rfl) (fun _ _ _ h => h) (Or.inl ⟨by rfl, ?_⟩) hHeld ?_
      rotate_left
      · intro w hSw; obtain ⟨hS1, hS2⟩ := hSw; go_simp
        try with_reducible rfl
      try simp only [List.getElem_toArray, List.getElem_cons_zero, List.getElem_cons_succ, Act.put, List.setIfInBounds_toArray, List.set_cons_zero, List.set_cons_succ]
      refine wpAnyH_take (i := 10) (v := ?_) rfl (by kernel_rfl) (by kernel_rfl) (by kernel_rfl) (fun _ _ _ h => h) (Or.inl ⟨by rfl, ?_⟩) hHeld ?_
      rotate_left
      · intro w hSw; obtain ⟨hS1, hS2⟩ := hSw; go_simp
        try with_reducible rfl
      try simp only [List.getElem_toArray, List.getElem_cons_zero, List.getElem_cons_succ, Act.put, List.setIfInBounds_toArray, List.set_cons_zero, List.set_cons_succ]
      refine wpAnyH_take (i := 11) (v := ?_) rfl (by kernel_rfl) (by kernel_rfl) (by kernel_rfl) (fun _ _ _ h => h) (Or.inl ⟨by rfl, ?_⟩) hHeld ?_
      rotate_left
      · intro w hSw; obtain ⟨hS1, hS2⟩ := hSw; go_simp
        try with_reducible rfl
      try simp only [List.getElem_toArray, List.getElem_cons_zero, List.getElem_cons_succ, Act.put, List.setIfInBounds_toArray, List.set_cons_zero, List.set_cons_succ]
      refine wpAnyH_take (i := 12) (v := ?_) rfl (by kernel_rfl) (by kernel_rfl) (by kernel_rfl) (fun _ _ _ h => h) (Or.inl ⟨by rfl, ?_⟩) hHeld ?_
      rotate_left
      · intro w hSw; obtain ⟨hS1, hS2⟩ := hSw; go_simp
        try with_reducible rfl
      try simp only [List.getElem_toArray, List.getElem_cons_zero, List.getElem_cons_succ, Act.put, List.setIfInBounds_toArray, List.set_cons_zero, List.set_cons_succ]
      refine wpAnyH_ready (rs := [13]) (by kernel_rfl) (by simp) ?_
      refine AllReadyH.cons rfl (fun K hK => ?_) AllReadyH.nil
      clear hHeld
      go_simp
      refine hK.out _ _ ⟨h96, h99⟩ (fun hHeld => ?_)
      clear hK K
      try simp only [List.getElem_toArray, List.getElem_cons_zero, List.getElem_cons_succ, Act.put, List.setIfInBounds_toArray, List.set_cons_zero, List.set_cons_succ]
      refine wpAnyH_take (i := 14) (v := ?_) rfl (by kernel_rfl) (by kernel_rfl) (by kernel_rfl) (fun _ _ _ h => h) (Or.inl ⟨by rfl, ?_⟩) hHeld ?_
      rotate_left
      · intro w hSw; obtain ⟨hS1, hS2⟩ := hSw; go_simp
        try with_reducible rfl
      try simp only [List.getElem_toArray, List.getElem_cons_zero, List.getElem_cons_succ, Act.put, List.setIfInBounds_toArray, List.set_cons_zero, List.set_cons_succ]
      refine wpAnyH_done (by kernel_rfl) ?_ _
      clear hHeld
      refine NoPanic.normal ?_
      have O4 := hid (show Own (w3.setCell ⟨w.heap.size, 100, none⟩ (.int .i64 (nzE m2.se 40))) (w.heap.size + 2) A3 c3 (nzL m2.se z 40) from Own.setC (O3.out.more (base' := w.heap.size + 2) (by have := MM.out.lt; exact this)) (by omega) 100 _)
      obtain ⟨W4, hW4⟩ : ∃ W4, W4 = w3.setCell ⟨w.heap.size, 100, none⟩ (.int .i64 (nzE m2.se 40)) := ⟨_, rfl⟩
      clear c96 c99 c100 d96 d99 d100 h96 h99 g100 hq hwz MM KN KF
      rw [← hW4] at M4 O4 ⊢
      clear hW4 M3 O3
      have K3 := hid (K2.out.se (nzE m2.se 40))
      have rg4 : W4.rangeAt w.heap.size 16 (ints m2.e) := M4.out.A.E K3.out
      have c98 : W4.cell? ⟨w.heap.size, 98, none⟩ = some (.int .i64 m2.la) := M4.out.A.cla K3.out
      have c97 : W4.cell? ⟨w.heap.size, 97, none⟩ = some (.int .i64 m2.pi) := M4.out.A.cpi K3.out
      have c99 : W4.cell? ⟨w.heap.size, 99, none⟩ = some (.int .i64 m2.er) := M4.out.A.cer K3.out
      have hu80 := Try.underlying34
      have hi80 : (Try.prog.info? 34).map (·.size) = some (ints m2.e).length := by rw [ints_len, K2.out.e]; exact size80k
      have R4 := hid (show Rs W4.drew W4.drew.heap.size A3 (nzL m2.se z 40) from O4.out.reads)
      simp only [Exit.then]
      go_wp2_with fail
      go_region_held3 (fun w' => w'.rangeAt w.heap.size 16 (ints m2.e) ∧ w'.cell? ⟨w.heap.size, 98, none⟩ = some (.int .i64 m2.la) ∧ w'.cell? ⟨w.heap.size, 97, none⟩ = some (.int .i64 m2.pi) ∧ w'.cell? ⟨w.heap.size, 99, none⟩ = some (.int .i64 m2.er)) (first | exact ⟨by assumption, by assumption, by assumption, by assumption⟩ | go_keep) (first
        | (go_at_call 88; (with_reducible refine (KG.out _).mono ?_); rintro e' w' ⟨rfl, rfl⟩)
        | (go_at_call 89; (with_reducible refine (KM.out W4.drew A3 c3 R4.out).mono ?_); rintro e' w5 ⟨A5, c5, rfl, hO, hB⟩; have M5 : Ms w w5 { m2 with se := nzE m2.se 40 } := M4.out.drew.below hB; have rg5 : w5.rangeAt w.heap.size 16 (ints m2.e) := M5.A.E K3.out; have d98 : w5.cell? ⟨w.heap.size, 98, none⟩ = some (.int .i64 m2.la) := M5.A.cla K3.out; have d97 : w5.cell? ⟨w.heap.size, 97, none⟩ = some (.int .i64 m2.pi) := M5.A.cpi K3.out; have d99 : w5.cell? ⟨w.heap.size, 99, none⟩ = some (.int .i64 m2.er) := M5.A.cer K3.out; have M5 := hid M5; have O5 := hid (hO.more (base' := w.heap.size + 2) (by have := M4.out.lt; exact this)); clear hO hB))
      rename_i hHeldZ
      clear hHeldZ
      clear rg4 c98 c97 c99 rg5 d98 d97 d99 hu80 M4 O4 R4 KM KG
      have KL := hid (keepL_len K2.out.e XL.out)
      have KK := hid (fun W A c (h : Rs W W.heap.size A x) => show Calls Try.prog 90 #[.agg (ints m2.e).toArray, .slice A 40 c] W (Keeps W m2.e x 40) from keep_any m2.e _ A c 40 W K2.out.e h XL.out (by omega))
      have HI80 := hid hi80
      clear hi80
      simp only [Exit.then]
      go_wp2_with (refine wpList_load_mid rfl 34 (.tmp 61) rfl _ _ rfl (ints m2.e) _ (M5.out.A.E K3.out) Try.underlying34 rfl HI80.out ?_)
      refine (KK.out w5 A5 c5 O5.out.reads).mono ?_
      rintro e w6 ⟨rfl, hB⟩
      have M6 := hid (M5.out.below hB)
      have O6 := hid (O5.out.below hB)
      clear hB M5 O5 KK
      have hKE := hid (show keepA m2.e x 40 = keepL m2.e x from rfl)
      rw [hKE.out]
      have M7 := hid (M6.out.ex K3.out _ KL.out)
      have O7 := hid (Own.setCs (g := w.heap.size) (by omega) (ints (keepL m2.e x)) 16 _ O6.out)
      have SZ := hid (show (Try.prog.info? 34).map (·.size) = some (agi (keepL m2.e x)).size from by rw [agi_size, KL.out]; exact size80k)
      have TH := hid (show w6.there w.heap.size 16 (agi (keepL m2.e x)).size from by rw [agi_size, KL.out]; exact M6.out.A.thereE K3.out)
      have OKS := hid (show (eraN m2).ok by rw [EN.out]; exact (K3.out.ex KL.out))
      obtain ⟨w7, hw7⟩ : ∃ w7, w7 = w6.setCells w.heap.size 16 (ints (keepL m2.e x)) := ⟨_, rfl⟩
      rw [← hw7] at M7 O7
      have HW7 := hid hw7
      have T7 := hid (show Ms w w7 (eraN m2) by rw [EN.out]; exact M7.out)
      clear hw7 M7 EN
      have hRow := hid (MB.setRow T7.out.R (eraN m2))
      have FIN := hid (below_setRow T7.out.bel (g := w.heap.size + 1) (by omega) (eraN m2).ag)
      have OF := hid ((O7.out.setRow (g := w.heap.size + 1) (by omega) (eraN m2).ag).more (base' := w.heap.size) (by omega))
      go_wp2_with (first
        | (refine wpList_store_mid rfl 34 (.tmp 67) (.tmp 65) rfl w.heap.size 16 (agi (keepL m2.e x)) rfl rfl TH.out SZ.out (agi_one _) ?_; rw [show (agi (keepL m2.e x)).toList = ints (keepL m2.e x) from rfl, ← HW7.out])
        | (refine wpList_loadM rfl (.tmp 2) rfl _ (eraN m2) rfl T7.out.A OKS.out ?_)
        | (refine wpList_storeM rfl (.tmp 4) (.tmp 68) rfl _ zeroM (eraN m2) rfl rfl T7.out.R zeroM_ok OKS.out ?_))
      refine bodyPost_ret (v := _) (hR _ _ _ (eraN m2) rfl hRow.out OKS.out) rfl ?_
      rw [FR.out, FY.out, HE.out]
      exact ⟨A5, c5, by rw [XL.out]; rfl, OF.out, FIN.out⟩
  · have MM := hid (show Ms w w1 m2 by
      rw [hm2]
      unfold eraP er1
      rw [if_neg (by omega)]
      exact S1.out)
    clear hm2 h1 h2 a5 f5
    go_wp2_with fail
    obtain ⟨W2, hW2⟩ : ∃ W2, W2 = w1 := ⟨_, rfl⟩
    rw [← hW2] at MM ⊢
    clear hW2 
    have c96 : W2.cell? ⟨w.heap.size, 96, none⟩ = some (.int .i64 m2.ga) := MM.out.A.cga K2.out
    have c99 : W2.cell? ⟨w.heap.size, 99, none⟩ = some (.int .i64 m2.er) := MM.out.A.cer K2.out
    have c100 : W2.cell? ⟨w.heap.size, 100, none⟩ = some (.int .i64 m2.se) := MM.out.A.cse K2.out
    have KN := hid (fun W => show Calls Try.prog 87 #[.int .i64 m2.se, .int .i64 (eraZ m2), .int .i64 40] W (NzA W m2.se (eraZ m2) 40) from cnoise_any m2.se (eraZ m2) 40 W (by omega))
    have KM := hid (fun W A c (hr : Rs W W.heap.size A (nzL m2.se (eraZ m2) 40)) => show Calls Try.prog 89 #[.agg (ints m2.e).toArray, .int .i64 m2.la, .int .i64 (fade m2.pi m2.er), .slice A 40 c] W (fun e w' => ∃ A c, e = .returned (.tuple #[.slice A 40 c, .int .i64 0]) ∧ Own w' W.heap.size A c (eraX m2) ∧ Below W.heap.size W w') from by
      refine (mix_any m2.e _ m2.la (fade m2.pi m2.er) A c 40 W K2.out.e hr (nzL_len _ _ _) (by omega)).mono ?_
      rintro e w' ⟨A', c', h1, h2, h3⟩
      rw [(mx_good (h := m2.e) (x := nzL m2.se (eraZ m2) 40) (eraX_good HLA.out)).2] at h1
      have hl := eraX_len HLA.out
      unfold eraX at hl
      rw [hl] at h1
      exact ⟨A', c', h1, h2, h3⟩)
    have XL := hid (eraX_len HLA.out)
    have EN := hid (show eraN m2 = { m2 with se := nzE m2.se 40, e := keepL m2.e (eraX m2) } from rfl)
    have KF0 := fun W => fade_any m2.ga m2.er W
    have KG0 := fun W => fade_any m2.pi m2.er W
    have fb := fade_range m2.ga m2.er
    have hwz : IntKind.i64.wrap (eraZ m2) = eraZ m2 := by unfold eraZ; rw [IntKind.wrap_i64]; omega
    have hq : (fade m2.ga m2.er).tdiv 4 = eraZ m2 := by unfold eraZ; exact Int.tdiv_eq_ediv_of_nonneg fb.1
    generalize eraX m2 = x at *
    generalize eraZ m2 = z at *
    generalize fade m2.ga m2.er = f at *
    generalize fade m2.pi m2.er = f2 at *
    have KF := hid KF0
    have KG := hid KG0
    clear KF0 KG0 fb
    refine wp_region_noPanic ?_
    refine wp_region_held_drew (S := fun w' => w'.cell? ⟨w.heap.size, 96, none⟩ = some (.int .i64 m2.ga) ∧ w'.cell? ⟨w.heap.size, 99, none⟩ = some (.int .i64 m2.er)) (by kernel_rfl) ⟨c96, c99⟩ (fun hHeld => ?_)
    refine wpAnyH_take (i := 0) (v := ?_) rfl (by kernel_rfl) (by kernel_rfl) (by kernel_rfl) (fun _ _ _ h => h) (Or.inl ⟨by rfl, ?_⟩) hHeld ?_
    rotate_left
    · intro w hSw; obtain ⟨hS1, hS2⟩ := hSw; go_simp
      try with_reducible rfl
    try simp only [List.getElem_toArray, List.getElem_cons_zero, List.getElem_cons_succ, Act.put, List.setIfInBounds_toArray, List.set_cons_zero, List.set_cons_succ]
    refine wpAnyH_take (i := 2) (v := ?_) rfl (by kernel_rfl) (by kernel_rfl) (by kernel_rfl) (fun _ _ _ h => h) (Or.inl ⟨by rfl, ?_⟩) hHeld ?_
    rotate_left
    · intro w hSw; obtain ⟨hS1, hS2⟩ := hSw; go_simp
      try with_reducible rfl
    try simp only [List.getElem_toArray, List.getElem_cons_zero, List.getElem_cons_succ, Act.put, List.setIfInBounds_toArray, List.set_cons_zero, List.set_cons_succ]
    refine wpAnyH_take (i := 3) (v := ?_) rfl (by kernel_rfl) (by kernel_rfl) (by kernel_rfl) (fun _ _ _ h => h) (Or.inl ⟨by rfl, ?_⟩) hHeld ?_
    rotate_left
    · intro w hSw; obtain ⟨hS1, hS2⟩ := hSw; go_simp
      try with_reducible rfl
    try simp only [List.getElem_toArray, List.getElem_cons_zero, List.getElem_cons_succ, Act.put, List.setIfInBounds_toArray, List.set_cons_zero, List.set_cons_succ]
    refine wpAnyH_take (i := 4) (v := ?_) rfl (by kernel_rfl) (by kernel_rfl) (by kernel_rfl) (fun _ _ _ h => h) (Or.inl ⟨by rfl, ?_⟩) hHeld ?_
    rotate_left
    · intro w hSw; obtain ⟨hS1, hS2⟩ := hSw; go_simp
      try with_reducible rfl
    try simp only [List.getElem_toArray, List.getElem_cons_zero, List.getElem_cons_succ, Act.put, List.setIfInBounds_toArray, List.set_cons_zero, List.set_cons_succ]
    refine wpAnyH_take (i := 5) (v := ?_) rfl (by kernel_rfl) (by kernel_rfl) (by kernel_rfl) (fun _ _ _ h => h) (Or.inl ⟨by rfl, ?_⟩) hHeld ?_
    rotate_left
    · intro w hSw; obtain ⟨hS1, hS2⟩ := hSw; go_simp
      try with_reducible rfl
    try simp only [List.getElem_toArray, List.getElem_cons_zero, List.getElem_cons_succ, Act.put, List.setIfInBounds_toArray, List.set_cons_zero, List.set_cons_succ]
    refine wpAnyH_ready (rs := [1, 6]) (by kernel_rfl) (by simp) ?_
    refine AllReadyH.cons rfl (fun K hK => ?_) (AllReadyH.cons rfl (fun K hK => ?_) AllReadyH.nil)
    · clear hHeld
      go_simp
      refine hK.out _ _ ⟨c96, c99⟩ (fun hHeld => ?_)
      clear hK K
      try simp only [List.getElem_toArray, List.getElem_cons_zero, List.getElem_cons_succ, Act.put, List.setIfInBounds_toArray, List.set_cons_zero, List.set_cons_succ]
      refine wpAnyH_ready (rs := [6]) (by kernel_rfl) (by simp) ?_
      refine AllReadyH.cons rfl (fun K hK => ?_) AllReadyH.nil
      clear hHeld
      go_simp
      go_at_call 88
      (with_reducible refine (KF.out _).mono ?_)
      rintro e' w' ⟨rfl, rfl⟩
      refine hK.out _ _ ⟨c96, c99⟩ (fun hHeld => ?_)
      clear hK K
      try simp only [List.getElem_toArray, List.getElem_cons_zero, List.getElem_cons_succ, Act.put, List.setIfInBounds_toArray, List.set_cons_zero, List.set_cons_succ]
      refine wpAnyH_take (i := 7) (v := ?_) rfl (by kernel_rfl) (by kernel_rfl) (by kernel_rfl) (fun _ _ _ h => h) (Or.inl ⟨by rfl, ?_⟩) hHeld ?_
      rotate_left
      · intro w hSw; obtain ⟨hS1, hS2⟩ := hSw; go_simp
        try with_reducible rfl
      try simp only [List.getElem_toArray, List.getElem_cons_zero, List.getElem_cons_succ, Act.put, List.setIfInBounds_toArray, List.set_cons_zero, List.set_cons_succ]
      refine wpAnyH_ready (rs := [8]) (by kernel_rfl) (by simp) ?_
      refine AllReadyH.cons rfl (fun K hK => ?_) AllReadyH.nil
      clear hHeld
      go_simp
      go_at_call 87
      (with_reducible refine (KN.out W2.drew).mono ?_)
      rintro e' w3 ⟨A3, c3, rfl, hO, hB⟩; have M3 : Ms w w3 m2 := MM.out.drew.below hB; have d96 : w3.cell? ⟨w.heap.size, 96, none⟩ = some (.int .i64 m2.ga) := M3.A.cga K2.out; have d99 : w3.cell? ⟨w.heap.size, 99, none⟩ = some (.int .i64 m2.er) := M3.A.cer K2.out; have d100 : w3.cell? ⟨w.heap.size, 100, none⟩ = some (.int .i64 m2.se) := M3.A.cse K2.out; have g100 : w3.frozen? ⟨w.heap.size, 100, none⟩ = false := MB.frozen M3.A 100; have M4 : Ms w (w3.setCell ⟨w.heap.size, 100, none⟩ (.int .i64 (nzE m2.se 40))) { m2 with se := nzE m2.se 40 } := M3.se K2.out (nzE m2.se 40); have h96 : (w3.setCell ⟨w.heap.size, 100, none⟩ (.int .i64 (nzE m2.se 40))).cell? ⟨w.heap.size, 96, none⟩ = some (.int .i64 m2.ga) := M4.A.cga (K2.out.se _); have h99 : (w3.setCell ⟨w.heap.size, 100, none⟩ (.int .i64 (nzE m2.se 40))).cell? ⟨w.heap.size, 99, none⟩ = some (.int .i64 m2.er) := M4.A.cer (K2.out.se _); have M4 := hid M4; have LT3 := hid M3.lt; have O3 := hid hO; clear hO hB
      refine hK.out _ _ ⟨d96, d99⟩ (fun hHeld => ?_)
      clear hK K
      try simp only [List.getElem_toArray, List.getElem_cons_zero, List.getElem_cons_succ, Act.put, List.setIfInBounds_toArray, List.set_cons_zero, List.set_cons_succ]
      refine wpAnyH_take (i := 9) (v := ?_) rfl (by kernel_rfl) (by kernel_rfl) (by kernel_rfl) (fun _ _ _ h => h) (Or.inl ⟨by rfl, ?_⟩) hHeld ?_
      rotate_left
      · intro w hSw; obtain ⟨hS1, hS2⟩ := hSw; go_simp
        try with_reducible rfl
      try simp only [List.getElem_toArray, List.getElem_cons_zero, List.getElem_cons_succ, Act.put, List.setIfInBounds_toArray, List.set_cons_zero, List.set_cons_succ]
      refine wpAnyH_take (i := 10) (v := ?_) rfl (by kernel_rfl) (by kernel_rfl) (by kernel_rfl) (fun _ _ _ h => h) (Or.inl ⟨by rfl, ?_⟩) hHeld ?_
      rotate_left
      · intro w hSw; obtain ⟨hS1, hS2⟩ := hSw; go_simp
        try with_reducible rfl
      try simp only [List.getElem_toArray, List.getElem_cons_zero, List.getElem_cons_succ, Act.put, List.setIfInBounds_toArray, List.set_cons_zero, List.set_cons_succ]
      refine wpAnyH_take (i := 11) (v := ?_) rfl (by kernel_rfl) (by kernel_rfl) (by kernel_rfl) (fun _ _ _ h => h) (Or.inl ⟨by rfl, ?_⟩) hHeld ?_
      rotate_left
      · intro w hSw; obtain ⟨hS1, hS2⟩ := hSw; go_simp
        try with_reducible rfl
      try simp only [List.getElem_toArray, List.getElem_cons_zero, List.getElem_cons_succ, Act.put, List.setIfInBounds_toArray, List.set_cons_zero, List.set_cons_succ]
      refine wpAnyH_take (i := 12) (v := ?_) rfl (by kernel_rfl) (by kernel_rfl) (by kernel_rfl) (fun _ _ _ h => h) (Or.inl ⟨by rfl, ?_⟩) hHeld ?_
      rotate_left
      · intro w hSw; obtain ⟨hS1, hS2⟩ := hSw; go_simp
        try with_reducible rfl
      try simp only [List.getElem_toArray, List.getElem_cons_zero, List.getElem_cons_succ, Act.put, List.setIfInBounds_toArray, List.set_cons_zero, List.set_cons_succ]
      refine wpAnyH_ready (rs := [13]) (by kernel_rfl) (by simp) ?_
      refine AllReadyH.cons rfl (fun K hK => ?_) AllReadyH.nil
      clear hHeld
      go_simp
      refine hK.out _ _ ⟨h96, h99⟩ (fun hHeld => ?_)
      clear hK K
      try simp only [List.getElem_toArray, List.getElem_cons_zero, List.getElem_cons_succ, Act.put, List.setIfInBounds_toArray, List.set_cons_zero, List.set_cons_succ]
      refine wpAnyH_take (i := 14) (v := ?_) rfl (by kernel_rfl) (by kernel_rfl) (by kernel_rfl) (fun _ _ _ h => h) (Or.inl ⟨by rfl, ?_⟩) hHeld ?_
      rotate_left
      · intro w hSw; obtain ⟨hS1, hS2⟩ := hSw; go_simp
        try with_reducible rfl
      try simp only [List.getElem_toArray, List.getElem_cons_zero, List.getElem_cons_succ, Act.put, List.setIfInBounds_toArray, List.set_cons_zero, List.set_cons_succ]
      refine wpAnyH_done (by kernel_rfl) ?_ _
      clear hHeld
      refine NoPanic.normal ?_
      have O4 := hid (show Own (w3.setCell ⟨w.heap.size, 100, none⟩ (.int .i64 (nzE m2.se 40))) (w.heap.size + 2) A3 c3 (nzL m2.se z 40) from Own.setC (O3.out.more (base' := w.heap.size + 2) (by have := MM.out.lt; exact this)) (by omega) 100 _)
      obtain ⟨W4, hW4⟩ : ∃ W4, W4 = w3.setCell ⟨w.heap.size, 100, none⟩ (.int .i64 (nzE m2.se 40)) := ⟨_, rfl⟩
      clear c96 c99 c100 d96 d99 d100 h96 h99 g100 hq hwz MM KN KF
      rw [← hW4] at M4 O4 ⊢
      clear hW4 M3 O3
      have K3 := hid (K2.out.se (nzE m2.se 40))
      have rg4 : W4.rangeAt w.heap.size 16 (ints m2.e) := M4.out.A.E K3.out
      have c98 : W4.cell? ⟨w.heap.size, 98, none⟩ = some (.int .i64 m2.la) := M4.out.A.cla K3.out
      have c97 : W4.cell? ⟨w.heap.size, 97, none⟩ = some (.int .i64 m2.pi) := M4.out.A.cpi K3.out
      have c99 : W4.cell? ⟨w.heap.size, 99, none⟩ = some (.int .i64 m2.er) := M4.out.A.cer K3.out
      have hu80 := Try.underlying34
      have hi80 : (Try.prog.info? 34).map (·.size) = some (ints m2.e).length := by rw [ints_len, K2.out.e]; exact size80k
      have R4 := hid (show Rs W4.drew W4.drew.heap.size A3 (nzL m2.se z 40) from O4.out.reads)
      simp only [Exit.then]
      go_wp2_with fail
      go_region_held3 (fun w' => w'.rangeAt w.heap.size 16 (ints m2.e) ∧ w'.cell? ⟨w.heap.size, 98, none⟩ = some (.int .i64 m2.la) ∧ w'.cell? ⟨w.heap.size, 97, none⟩ = some (.int .i64 m2.pi) ∧ w'.cell? ⟨w.heap.size, 99, none⟩ = some (.int .i64 m2.er)) (first | exact ⟨by assumption, by assumption, by assumption, by assumption⟩ | go_keep) (first
        | (go_at_call 88; (with_reducible refine (KG.out _).mono ?_); rintro e' w' ⟨rfl, rfl⟩)
        | (go_at_call 89; (with_reducible refine (KM.out W4.drew A3 c3 R4.out).mono ?_); rintro e' w5 ⟨A5, c5, rfl, hO, hB⟩; have M5 : Ms w w5 { m2 with se := nzE m2.se 40 } := M4.out.drew.below hB; have rg5 : w5.rangeAt w.heap.size 16 (ints m2.e) := M5.A.E K3.out; have d98 : w5.cell? ⟨w.heap.size, 98, none⟩ = some (.int .i64 m2.la) := M5.A.cla K3.out; have d97 : w5.cell? ⟨w.heap.size, 97, none⟩ = some (.int .i64 m2.pi) := M5.A.cpi K3.out; have d99 : w5.cell? ⟨w.heap.size, 99, none⟩ = some (.int .i64 m2.er) := M5.A.cer K3.out; have M5 := hid M5; have O5 := hid (hO.more (base' := w.heap.size + 2) (by have := M4.out.lt; exact this)); clear hO hB))
      rename_i hHeldZ
      clear hHeldZ
      clear rg4 c98 c97 c99 rg5 d98 d97 d99 hu80 M4 O4 R4 KM KG
      have KL := hid (keepL_len K2.out.e XL.out)
      have KK := hid (fun W A c (h : Rs W W.heap.size A x) => show Calls Try.prog 90 #[.agg (ints m2.e).toArray, .slice A 40 c] W (Keeps W m2.e x 40) from keep_any m2.e _ A c 40 W K2.out.e h XL.out (by omega))
      have HI80 := hid hi80
      clear hi80
      simp only [Exit.then]
      go_wp2_with (refine wpList_load_mid rfl 34 (.tmp 61) rfl _ _ rfl (ints m2.e) _ (M5.out.A.E K3.out) Try.underlying34 rfl HI80.out ?_)
      refine (KK.out w5 A5 c5 O5.out.reads).mono ?_
      rintro e w6 ⟨rfl, hB⟩
      have M6 := hid (M5.out.below hB)
      have O6 := hid (O5.out.below hB)
      clear hB M5 O5 KK
      have hKE := hid (show keepA m2.e x 40 = keepL m2.e x from rfl)
      rw [hKE.out]
      have M7 := hid (M6.out.ex K3.out _ KL.out)
      have O7 := hid (Own.setCs (g := w.heap.size) (by omega) (ints (keepL m2.e x)) 16 _ O6.out)
      have SZ := hid (show (Try.prog.info? 34).map (·.size) = some (agi (keepL m2.e x)).size from by rw [agi_size, KL.out]; exact size80k)
      have TH := hid (show w6.there w.heap.size 16 (agi (keepL m2.e x)).size from by rw [agi_size, KL.out]; exact M6.out.A.thereE K3.out)
      have OKS := hid (show (eraN m2).ok by rw [EN.out]; exact (K3.out.ex KL.out))
      obtain ⟨w7, hw7⟩ : ∃ w7, w7 = w6.setCells w.heap.size 16 (ints (keepL m2.e x)) := ⟨_, rfl⟩
      rw [← hw7] at M7 O7
      have HW7 := hid hw7
      have T7 := hid (show Ms w w7 (eraN m2) by rw [EN.out]; exact M7.out)
      clear hw7 M7 EN
      have hRow := hid (MB.setRow T7.out.R (eraN m2))
      have FIN := hid (below_setRow T7.out.bel (g := w.heap.size + 1) (by omega) (eraN m2).ag)
      have OF := hid ((O7.out.setRow (g := w.heap.size + 1) (by omega) (eraN m2).ag).more (base' := w.heap.size) (by omega))
      go_wp2_with (first
        | (refine wpList_store_mid rfl 34 (.tmp 67) (.tmp 65) rfl w.heap.size 16 (agi (keepL m2.e x)) rfl rfl TH.out SZ.out (agi_one _) ?_; rw [show (agi (keepL m2.e x)).toList = ints (keepL m2.e x) from rfl, ← HW7.out])
        | (refine wpList_loadM rfl (.tmp 2) rfl _ (eraN m2) rfl T7.out.A OKS.out ?_)
        | (refine wpList_storeM rfl (.tmp 4) (.tmp 68) rfl _ zeroM (eraN m2) rfl rfl T7.out.R zeroM_ok OKS.out ?_))
      refine bodyPost_ret (v := _) (hR _ _ _ (eraN m2) rfl hRow.out OKS.out) rfl ?_
      rw [FR.out, FY.out, HE.out]
      exact ⟨A5, c5, by rw [XL.out]; rfl, OF.out, FIN.out⟩

    · clear hHeld
      go_simp
      go_at_call 88
      (with_reducible refine (KF.out _).mono ?_)
      rintro e' w' ⟨rfl, rfl⟩
      refine hK.out _ _ ⟨c96, c99⟩ (fun hHeld => ?_)
      clear hK K
      try simp only [List.getElem_toArray, List.getElem_cons_zero, List.getElem_cons_succ, Act.put, List.setIfInBounds_toArray, List.set_cons_zero, List.set_cons_succ]
      refine wpAnyH_take (i := 7) (v := ?_) rfl (by kernel_rfl) (by kernel_rfl) (by kernel_rfl) (fun _ _ _ h => h) (Or.inl ⟨by rfl, ?_⟩) hHeld ?_
      rotate_left
      · intro w hSw; obtain ⟨hS1, hS2⟩ := hSw; go_simp
        try with_reducible rfl
      try simp only [List.getElem_toArray, List.getElem_cons_zero, List.getElem_cons_succ, Act.put, List.setIfInBounds_toArray, List.set_cons_zero, List.set_cons_succ]
      refine wpAnyH_ready (rs := [1]) (by kernel_rfl) (by simp) ?_
      refine AllReadyH.cons rfl (fun K hK => ?_) AllReadyH.nil
      clear hHeld
      go_simp
      refine hK.out _ _ ⟨c96, c99⟩ (fun hHeld => ?_)
      clear hK K
      try simp only [List.getElem_toArray, List.getElem_cons_zero, List.getElem_cons_succ, Act.put, List.setIfInBounds_toArray, List.set_cons_zero, List.set_cons_succ]
      refine wpAnyH_ready (rs := [8]) (by kernel_rfl) (by simp) ?_
      refine AllReadyH.cons rfl (fun K hK => ?_) AllReadyH.nil
      clear hHeld
      go_simp
      go_at_call 87
      (with_reducible refine (KN.out W2.drew).mono ?_)
      rintro e' w3 ⟨A3, c3, rfl, hO, hB⟩; have M3 : Ms w w3 m2 := MM.out.drew.below hB; have d96 : w3.cell? ⟨w.heap.size, 96, none⟩ = some (.int .i64 m2.ga) := M3.A.cga K2.out; have d99 : w3.cell? ⟨w.heap.size, 99, none⟩ = some (.int .i64 m2.er) := M3.A.cer K2.out; have d100 : w3.cell? ⟨w.heap.size, 100, none⟩ = some (.int .i64 m2.se) := M3.A.cse K2.out; have g100 : w3.frozen? ⟨w.heap.size, 100, none⟩ = false := MB.frozen M3.A 100; have M4 : Ms w (w3.setCell ⟨w.heap.size, 100, none⟩ (.int .i64 (nzE m2.se 40))) { m2 with se := nzE m2.se 40 } := M3.se K2.out (nzE m2.se 40); have h96 : (w3.setCell ⟨w.heap.size, 100, none⟩ (.int .i64 (nzE m2.se 40))).cell? ⟨w.heap.size, 96, none⟩ = some (.int .i64 m2.ga) := M4.A.cga (K2.out.se _); have h99 : (w3.setCell ⟨w.heap.size, 100, none⟩ (.int .i64 (nzE m2.se 40))).cell? ⟨w.heap.size, 99, none⟩ = some (.int .i64 m2.er) := M4.A.cer (K2.out.se _); have M4 := hid M4; have LT3 := hid M3.lt; have O3 := hid hO; clear hO hB
      refine hK.out _ _ ⟨d96, d99⟩ (fun hHeld => ?_)
      clear hK K
      try simp only [List.getElem_toArray, List.getElem_cons_zero, List.getElem_cons_succ, Act.put, List.setIfInBounds_toArray, List.set_cons_zero, List.set_cons_succ]
      refine wpAnyH_take (i := 9) (v := ?_) rfl (by kernel_rfl) (by kernel_rfl) (by kernel_rfl) (fun _ _ _ h => h) (Or.inl ⟨by rfl, ?_⟩) hHeld ?_
      rotate_left
      · intro w hSw; obtain ⟨hS1, hS2⟩ := hSw; go_simp
        try with_reducible rfl
      try simp only [List.getElem_toArray, List.getElem_cons_zero, List.getElem_cons_succ, Act.put, List.setIfInBounds_toArray, List.set_cons_zero, List.set_cons_succ]
      refine wpAnyH_take (i := 10) (v := ?_) rfl (by kernel_rfl) (by kernel_rfl) (by kernel_rfl) (fun _ _ _ h => h) (Or.inl ⟨by rfl, ?_⟩) hHeld ?_
      rotate_left
      · intro w hSw; obtain ⟨hS1, hS2⟩ := hSw; go_simp
        try with_reducible rfl
      try simp only [List.getElem_toArray, List.getElem_cons_zero, List.getElem_cons_succ, Act.put, List.setIfInBounds_toArray, List.set_cons_zero, List.set_cons_succ]
      refine wpAnyH_take (i := 11) (v := ?_) rfl (by kernel_rfl) (by kernel_rfl) (by kernel_rfl) (fun _ _ _ h => h) (Or.inl ⟨by rfl, ?_⟩) hHeld ?_
      rotate_left
      · intro w hSw; obtain ⟨hS1, hS2⟩ := hSw; go_simp
        try with_reducible rfl
      try simp only [List.getElem_toArray, List.getElem_cons_zero, List.getElem_cons_succ, Act.put, List.setIfInBounds_toArray, List.set_cons_zero, List.set_cons_succ]
      refine wpAnyH_take (i := 12) (v := ?_) rfl (by kernel_rfl) (by kernel_rfl) (by kernel_rfl) (fun _ _ _ h => h) (Or.inl ⟨by rfl, ?_⟩) hHeld ?_
      rotate_left
      · intro w hSw; obtain ⟨hS1, hS2⟩ := hSw; go_simp
        try with_reducible rfl
      try simp only [List.getElem_toArray, List.getElem_cons_zero, List.getElem_cons_succ, Act.put, List.setIfInBounds_toArray, List.set_cons_zero, List.set_cons_succ]
      refine wpAnyH_ready (rs := [13]) (by kernel_rfl) (by simp) ?_
      refine AllReadyH.cons rfl (fun K hK => ?_) AllReadyH.nil
      clear hHeld
      go_simp
      refine hK.out _ _ ⟨h96, h99⟩ (fun hHeld => ?_)
      clear hK K
      try simp only [List.getElem_toArray, List.getElem_cons_zero, List.getElem_cons_succ, Act.put, List.setIfInBounds_toArray, List.set_cons_zero, List.set_cons_succ]
      refine wpAnyH_take (i := 14) (v := ?_) rfl (by kernel_rfl) (by kernel_rfl) (by kernel_rfl) (fun _ _ _ h => h) (Or.inl ⟨by rfl, ?_⟩) hHeld ?_
      rotate_left
      · intro w hSw; obtain ⟨hS1, hS2⟩ := hSw; go_simp
        try with_reducible rfl
      try simp only [List.getElem_toArray, List.getElem_cons_zero, List.getElem_cons_succ, Act.put, List.setIfInBounds_toArray, List.set_cons_zero, List.set_cons_succ]
      refine wpAnyH_done (by kernel_rfl) ?_ _
      clear hHeld
      refine NoPanic.normal ?_
      have O4 := hid (show Own (w3.setCell ⟨w.heap.size, 100, none⟩ (.int .i64 (nzE m2.se 40))) (w.heap.size + 2) A3 c3 (nzL m2.se z 40) from Own.setC (O3.out.more (base' := w.heap.size + 2) (by have := MM.out.lt; exact this)) (by omega) 100 _)
      obtain ⟨W4, hW4⟩ : ∃ W4, W4 = w3.setCell ⟨w.heap.size, 100, none⟩ (.int .i64 (nzE m2.se 40)) := ⟨_, rfl⟩
      clear c96 c99 c100 d96 d99 d100 h96 h99 g100 hq hwz MM KN KF
      rw [← hW4] at M4 O4 ⊢
      clear hW4 M3 O3
      have K3 := hid (K2.out.se (nzE m2.se 40))
      have rg4 : W4.rangeAt w.heap.size 16 (ints m2.e) := M4.out.A.E K3.out
      have c98 : W4.cell? ⟨w.heap.size, 98, none⟩ = some (.int .i64 m2.la) := M4.out.A.cla K3.out
      have c97 : W4.cell? ⟨w.heap.size, 97, none⟩ = some (.int .i64 m2.pi) := M4.out.A.cpi K3.out
      have c99 : W4.cell? ⟨w.heap.size, 99, none⟩ = some (.int .i64 m2.er) := M4.out.A.cer K3.out
      have hu80 := Try.underlying34
      have hi80 : (Try.prog.info? 34).map (·.size) = some (ints m2.e).length := by rw [ints_len, K2.out.e]; exact size80k
      have R4 := hid (show Rs W4.drew W4.drew.heap.size A3 (nzL m2.se z 40) from O4.out.reads)
      simp only [Exit.then]
      go_wp2_with fail
      go_region_held3 (fun w' => w'.rangeAt w.heap.size 16 (ints m2.e) ∧ w'.cell? ⟨w.heap.size, 98, none⟩ = some (.int .i64 m2.la) ∧ w'.cell? ⟨w.heap.size, 97, none⟩ = some (.int .i64 m2.pi) ∧ w'.cell? ⟨w.heap.size, 99, none⟩ = some (.int .i64 m2.er)) (first | exact ⟨by assumption, by assumption, by assumption, by assumption⟩ | go_keep) (first
        | (go_at_call 88; (with_reducible refine (KG.out _).mono ?_); rintro e' w' ⟨rfl, rfl⟩)
        | (go_at_call 89; (with_reducible refine (KM.out W4.drew A3 c3 R4.out).mono ?_); rintro e' w5 ⟨A5, c5, rfl, hO, hB⟩; have M5 : Ms w w5 { m2 with se := nzE m2.se 40 } := M4.out.drew.below hB; have rg5 : w5.rangeAt w.heap.size 16 (ints m2.e) := M5.A.E K3.out; have d98 : w5.cell? ⟨w.heap.size, 98, none⟩ = some (.int .i64 m2.la) := M5.A.cla K3.out; have d97 : w5.cell? ⟨w.heap.size, 97, none⟩ = some (.int .i64 m2.pi) := M5.A.cpi K3.out; have d99 : w5.cell? ⟨w.heap.size, 99, none⟩ = some (.int .i64 m2.er) := M5.A.cer K3.out; have M5 := hid M5; have O5 := hid (hO.more (base' := w.heap.size + 2) (by have := M4.out.lt; exact this)); clear hO hB))
      rename_i hHeldZ
      clear hHeldZ
      clear rg4 c98 c97 c99 rg5 d98 d97 d99 hu80 M4 O4 R4 KM KG
      have KL := hid (keepL_len K2.out.e XL.out)
      have KK := hid (fun W A c (h : Rs W W.heap.size A x) => show Calls Try.prog 90 #[.agg (ints m2.e).toArray, .slice A 40 c] W (Keeps W m2.e x 40) from keep_any m2.e _ A c 40 W K2.out.e h XL.out (by omega))
      have HI80 := hid hi80
      clear hi80
      simp only [Exit.then]
      go_wp2_with (refine wpList_load_mid rfl 34 (.tmp 61) rfl _ _ rfl (ints m2.e) _ (M5.out.A.E K3.out) Try.underlying34 rfl HI80.out ?_)
      refine (KK.out w5 A5 c5 O5.out.reads).mono ?_
      rintro e w6 ⟨rfl, hB⟩
      have M6 := hid (M5.out.below hB)
      have O6 := hid (O5.out.below hB)
      clear hB M5 O5 KK
      have hKE := hid (show keepA m2.e x 40 = keepL m2.e x from rfl)
      rw [hKE.out]
      have M7 := hid (M6.out.ex K3.out _ KL.out)
      have O7 := hid (Own.setCs (g := w.heap.size) (by omega) (ints (keepL m2.e x)) 16 _ O6.out)
      have SZ := hid (show (Try.prog.info? 34).map (·.size) = some (agi (keepL m2.e x)).size from by rw [agi_size, KL.out]; exact size80k)
      have TH := hid (show w6.there w.heap.size 16 (agi (keepL m2.e x)).size from by rw [agi_size, KL.out]; exact M6.out.A.thereE K3.out)
      have OKS := hid (show (eraN m2).ok by rw [EN.out]; exact (K3.out.ex KL.out))
      obtain ⟨w7, hw7⟩ : ∃ w7, w7 = w6.setCells w.heap.size 16 (ints (keepL m2.e x)) := ⟨_, rfl⟩
      rw [← hw7] at M7 O7
      have HW7 := hid hw7
      have T7 := hid (show Ms w w7 (eraN m2) by rw [EN.out]; exact M7.out)
      clear hw7 M7 EN
      have hRow := hid (MB.setRow T7.out.R (eraN m2))
      have FIN := hid (below_setRow T7.out.bel (g := w.heap.size + 1) (by omega) (eraN m2).ag)
      have OF := hid ((O7.out.setRow (g := w.heap.size + 1) (by omega) (eraN m2).ag).more (base' := w.heap.size) (by omega))
      go_wp2_with (first
        | (refine wpList_store_mid rfl 34 (.tmp 67) (.tmp 65) rfl w.heap.size 16 (agi (keepL m2.e x)) rfl rfl TH.out SZ.out (agi_one _) ?_; rw [show (agi (keepL m2.e x)).toList = ints (keepL m2.e x) from rfl, ← HW7.out])
        | (refine wpList_loadM rfl (.tmp 2) rfl _ (eraN m2) rfl T7.out.A OKS.out ?_)
        | (refine wpList_storeM rfl (.tmp 4) (.tmp 68) rfl _ zeroM (eraN m2) rfl rfl T7.out.R zeroM_ok OKS.out ?_))
      refine bodyPost_ret (v := _) (hR _ _ _ (eraN m2) rfl hRow.out OKS.out) rfl ?_
      rw [FR.out, FY.out, HE.out]
      exact ⟨A5, c5, by rw [XL.out]; rfl, OF.out, FIN.out⟩
end Go.Proofs.Ytcfmipobgljbeaa

/- The reference's Silent. -/
namespace Go.Proofs.Ytcfmipobgljbeaa
set_option linter.unusedVariables false
set_option linter.unusedSimpArgs false
set_option maxRecDepth 100000
open Go.RowKit

theorem w64_of16 {xs : List Int} (h : all16 xs = true) : W64 xs := fun x hx => by
  unfold all16 at h
  have := List.all_eq_true.1 h x hx
  unfold ok16 at this
  simp at this
  omega
end Go.Proofs.Ytcfmipobgljbeaa

/- The walk of Mix, the program's. -/
namespace Go.Proofs.Ytcfmipobgljbeaa
set_option linter.unusedVariables false
set_option linter.unusedSimpArgs false
set_option maxRecDepth 100000
open Go.RowKit

def Mixes (w : World) (a b : List Int) (num : Int) (e : Ending) (w' : World) : Prop := e = .returned (.tuple #[.agg (agi (mixL a b num)), .int .i64 (errOf (mixB a b num))]) ∧ Below w.heap.size w w'
def Z8 : List Int := List.replicate 8 0
def Z9 : List Int := List.replicate 9 0
theorem z8_eq : agi Z8 = #[.int .i64 0, .int .i64 0, .int .i64 0, .int .i64 0, .int .i64 0, .int .i64 0, .int .i64 0, .int .i64 0] := rfl
theorem z9_eq : agi Z9 = #[.int .i64 0, .int .i64 0, .int .i64 0, .int .i64 0, .int .i64 0, .int .i64 0, .int .i64 0, .int .i64 0, .int .i64 0] := rfl
theorem size8 : (Try.prog.info? 42).map (·.size) = some 8 := by kernel_rfl
theorem size9 : (Try.prog.info? 23).map (·.size) = some 9 := by kernel_rfl

theorem mix_bad {w w' : World} {a b : List Int} {num : Int} (h : mixB a b num = false) (hB : Below w.heap.size w w') : Mixes w a b num (.returned (.tuple #[.agg (agi Z8), .int .i64 2])) w' := by
  refine ⟨?_, hB⟩
  unfold mixL errOf
  rw [h]
  rfl
theorem mix_good {w w' : World} {a b ys : List Int} {num : Int} (h : mixB a b num = true) (hl : ys.length = 8) (hy : ∀ j, j < 8 → ys.getD j 0 = mixE a b num j) (hB : Below w.heap.size w w') : Mixes w a b num (.returned (.tuple #[.agg (agi ys), .int .i64 0])) w' := by
  refine ⟨?_, hB⟩
  have e : ys = mixL a b num := by
    apply list_ext (by rw [hl, mixL_len])
    intro j hj
    rw [hy j (by omega)]
    unfold mixL
    rw [if_pos h, List.getD_eq_getElem?_getD, List.getElem?_map, List.getElem?_range (by omega)]
    rfl
  unfold errOf
  rw [h, e]
  rfl
theorem mixB_a {a b : List Int} {num : Int} {k : Nat} (hk : k < a.length) (h : a.getD k 0 ≤ -32768 ∨ 32768 ≤ a.getD k 0) : mixB a b num = false := by
  unfold mixB steadyB; rw [all_no hk (okR_no h)]; simp
theorem mixB_b {a b : List Int} {num : Int} {k : Nat} (hk : k < b.length) (h : b.getD k 0 ≤ -32768 ∨ 32768 ≤ b.getD k 0) : mixB a b num = false := by
  unfold mixB steadyB; rw [all_no hk (okR_no h)]; simp

structure MixInv (w wr : World) (a b ys : List Int) : Prop where
  A : IB wr w.heap.size 42 a
  B : IB wr (w.heap.size + 1) 42 b
  R : IB wr (w.heap.size + 1 + 1) 42 Z8
  O : IB wr (w.heap.size + 1 + 1 + 1) 42 ys
  bel : Below w.heap.size w wr
theorem MixInv.start (w : World) (a b : List Int) : MixInv w ((((w.alloc (.cells (agi a) 42)).alloc (.cells (agi b) 42)).alloc (.cells (agi Z8) 42)).alloc (.cells (agi Z8) 42)) a b Z8 := by
  have h1 := IB.new w 42 a
  have h2 := IB.new (w.alloc (.cells (agi a) 42)) 42 b
  have h3 := IB.new ((w.alloc (.cells (agi a) 42)).alloc (.cells (agi b) 42)) 42 Z8
  have h4 := IB.new (((w.alloc (.cells (agi a) 42)).alloc (.cells (agi b) 42)).alloc (.cells (agi Z8) 42)) 42 Z8
  simp only [World.size_alloc] at h2 h3 h4
  exact ⟨((Blk.alloc h1 _).alloc _).alloc _, (Blk.alloc h2 _).alloc _, Blk.alloc h3 _, h4, ((((Below.refl _ _).alloc (Nat.le_refl _) _).alloc (by simp) _).alloc (by simp; omega) _).alloc (by simp; omega) _⟩

end Go.Proofs.Ytcfmipobgljbeaa

/- The walk of the reference's Steady. -/
namespace Go.Proofs.Ytcfmipobgljbeaa
set_option linter.unusedVariables false
set_option linter.unusedSimpArgs false
set_option maxRecDepth 100000
open Go.RowKit

/-- A function that answers a Bool and makes new memory at most. -/
def AnsB (w : World) (b : Bool) (e : Ending) (w' : World) : Prop := e = .returned (.bool b) ∧ Below w.heap.size w w'

set_option maxHeartbeats 2000000 in
theorem steady_any (a : List Int) (w : World) (ha : a.length = 8) : Calls Try.prog 93 #[.agg (agi a)] w (AnsB w (steadyB a)) := by
  have hI := hid (IB.new w 42 a)
  have HA := hid ha
  have hix := fun (k : Nat) (hk : k < 8) (w : World) => run_index_agi Try.underlying42 a ha k hk w
  have HIX := hid hix
  clear ha hix
  go_enter Try.func93, Try.ntmps93
  go_wp2_with (refine wpList_loadI rfl 42 (.tmp 1) rfl _ 42 a 8 _ rfl hI.out Try.underlying42 rfl size8 HA.out ?_)
  go_loop [6] (fun iv => ∃ k : Nat, k ≤ 8 ∧ iv = .int .i64 k ∧ Hid (allTo okR a k)) (fun iv => 8 - (intOf iv).toNat)
  case atStart => exact ⟨0, by omega, rfl, hid allTo.zero⟩
  case round =>
    obtain ⟨k, hk, rfl, HY⟩ := hrel
    by_cases hlt : k < 8
    · have hix := HIX.out k hlt
      obtain ⟨x, hx⟩ : ∃ x, x = a.getD k 0 := ⟨_, rfl⟩
      rw [← hx] at hix
      have HX := hid hx
      clear hx
      by_cases b1 : x ≤ -32768
      · have HF := hid (show steadyB a = false from all_no (i := k) (by rw [HA.out]; exact hlt) (okR_no (by rw [← HX.out]; exact .inl b1)))
        go_wp2
        go_ret
        exact ⟨by rw [HF.out]; rfl, (Below.refl _ _).alloc (Nat.le_refl _) _⟩
      by_cases b2 : 32768 ≤ x
      · have HF := hid (show steadyB a = false from all_no (i := k) (by rw [HA.out]; exact hlt) (okR_no (by rw [← HX.out]; exact .inr b2)))
        go_wp2
        go_ret
        exact ⟨by rw [HF.out]; rfl, (Below.refl _ _).alloc (Nat.le_refl _) _⟩
      have HN := hid (HY.out.succ (by rw [← HX.out]; exact okR_yes (by omega) (by omega)))
      go_wp2
      go_round
      case rel => exact ⟨k + 1, by omega, by go_num, HN⟩
      case measure => simp [intOf] <;> omega
    · obtain rfl : k = 8 := by omega
      have HF := hid (show steadyB a = true from HY.out.all (by rw [HA.out]; exact Nat.le_refl _))
      go_wp2
      go_ret
      exact ⟨by rw [HF.out]; rfl, (Below.refl _ _).alloc (Nat.le_refl _) _⟩
end Go.Proofs.Ytcfmipobgljbeaa

/- The walks of Quo, BitLen, IsInt64, where the seat has them. -/
namespace Go.Proofs.Ytcfmipobgljbeaa
set_option linter.unusedVariables false
set_option linter.unusedSimpArgs false
set_option maxRecDepth 100000
open Go.RowKit

theorem BitLen_any (w : World) (c : Nat) (x : Int) (hc : IntAt w c x) (sx : Sm x.natAbs) :
    Calls Try.prog 34 #[.pointer (some ⟨c, 0, none⟩)] w fun e w' => e = .returned (.int .i64 (bitlen x.natAbs : Nat)) ∧ w = w' := by
  obtain ⟨v, h0, h1, hv⟩ := hc.cells
  have K := hid (length_any w v _ hv sx)
  clear hv hc
  go_enter Try.func34, Try.ntmps34
  go_wp2_with (go_at_call 72; refine K.out.mono ?_; rintro e w1 ⟨rfl, rfl⟩)
  go_ret
  exact ⟨rfl, rfl⟩
end Go.Proofs.Ytcfmipobgljbeaa

/- The walk of the reference's Mix. -/
namespace Go.Proofs.Ytcfmipobgljbeaa
set_option linter.unusedVariables false
set_option linter.unusedSimpArgs false
set_option maxRecDepth 100000
open Go.RowKit

theorem below_dA (w : World) (n : Nat) (o : Obj) : Below w.heap.size w ((w.drewN n).alloc o) :=
  Below.alloc (a := w) (w := w.drewN n) ⟨rfl, rfl, rfl, Nat.le_refl _, fun _ _ => rfl⟩ (Nat.le_refl _) o

/-- The two arguments' boxes and the answer's, what lies below untouched. -/
structure Bx3 (w wr : World) (a b r : List Int) : Prop where
  A : IB wr w.heap.size 42 a
  B : IB wr (w.heap.size + 1) 42 b
  R : IB wr (w.heap.size + 1 + 1) 42 r
  bel : Below w.heap.size w wr
theorem Bx3.lt {w wr : World} {a b r : List Int} (h : Bx3 w wr a b r) : w.heap.size + 1 + 1 < wr.heap.size := Blk.lt h.R
theorem Bx3.below {w wr wr' : World} {a b r : List Int} (h : Bx3 w wr a b r) (hb : Below wr.heap.size wr wr') : Bx3 w wr' a b r :=
  ⟨Blk.below' h.A hb, Blk.below' h.B hb, Blk.below' h.R hb, h.bel.trans (hb.mono (by have := h.lt; omega))⟩
theorem Bx3.setCell {w wr : World} {a b r : List Int} (h : Bx3 w wr a b r) {g : Nat} (hg : w.heap.size + 1 + 1 < g) (k : Nat) (v : Value) : Bx3 w (wr.setCell ⟨g, k, none⟩ v) a b r :=
  ⟨Blk.far h.A (by show w.heap.size ≠ g; omega) _, Blk.far h.B (by show w.heap.size + 1 ≠ g; omega) _, Blk.far h.R (by show w.heap.size + 1 + 1 ≠ g; omega) _, h.bel.setCell (p := ⟨g, k, none⟩) (by show w.heap.size ≤ g; omega) _⟩
theorem Bx3.start (w : World) (a b : List Int) : Bx3 w (((w.alloc (.cells (agi a) 42)).alloc (.cells (agi b) 42)).alloc (.cells (agi Z8) 42)) a b Z8 := by
  have h1 := IB.new w 42 a
  have h2 := IB.new (w.alloc (.cells (agi a) 42)) 42 b
  have h3 := IB.new ((w.alloc (.cells (agi a) 42)).alloc (.cells (agi b) 42)) 42 Z8
  simp only [World.size_alloc] at h2 h3
  exact ⟨(Blk.alloc h1 _).alloc _, Blk.alloc h2 _, h3, (((Below.refl _ _).alloc (Nat.le_refl _) _).alloc (by simp) _).alloc (by simp; omega) _⟩

end Go.Proofs.Ytcfmipobgljbeaa

/- Two arrays of numbers that are the same. -/
namespace Go.Proofs.Ytcfmipobgljbeaa
set_option linter.unusedVariables false
set_option linter.unusedSimpArgs false
set_option maxRecDepth 100000
open Go.RowKit

theorem run_equalIn_agi (d : Nat) {t : TypeId} {n : Nat} (ht : Try.prog.underlying t = some (.array n 3)) (xs : List Int) (hl : xs.length = n) (w : World) :
    (Op.equalIn (d + 2) t (.agg (agi xs)) (.agg (agi xs))).run Try.prog w = .ok true w := by
  have hs : ∀ w, (sizeOf 3).run Try.prog w = .ok 1 w := fun w => by kernel_rfl
  have ha : ∀ w, (isAgg 3).run Try.prog w = .ok false w := fun w => by kernel_rfl
  rw [Op.equalIn]
  simp only [Sem.run_bind, run_underlying ht, Result.andThen_ok, hs, Std.Legacy.Range.forIn_eq_forIn_range', Std.Legacy.Range.size, Nat.sub_zero, Nat.add_sub_cancel, Nat.div_one]
  have hl2 : ∀ i ∈ List.range' 0 n 1, i < n := fun i hi => by simpa using (List.mem_range'_1.1 hi).2
  generalize List.range' 0 n 1 = l at hl2 ⊢
  induction l with
  | nil => simp
  | cons i l ih =>
    have hi : i < n := hl2 i (by simp)
    have px : (part 3 (agi xs) (i * 1)).run Try.prog w = .ok (.int .i64 (xs.getD i 0)) w := by
      have hg := agi_get xs i (by omega)
      simp [part, ha, hg]
    have pe : (Op.equalIn (d + 1) 3 (.int .i64 (xs.getD i 0)) (.int .i64 (xs.getD i 0))).run Try.prog w = .ok true w := by
      rw [run_equalIn_int w d 3 .i64 .i64 _ _ Try.underlying3]
      simp
    simp only [List.forIn_cons, Sem.run_bind, px, pe, Result.andThen_ok]
    simp only [Bool.not_true, Bool.false_eq_true, if_false, Sem.run_pure, Result.andThen_ok]
    exact ih fun j hj => hl2 j (by simp [hj])

theorem run_eql_agi {t : TypeId} {n : Nat} (ht : Try.prog.underlying t = some (.array n 3)) (xs : List Int) (hl : xs.length = n) (w : World) :
    (binOp .eql t (.agg (agi xs)) (.agg (agi xs))).run Try.prog w = .ok (.bool true) w := by
  rw [run_eql_struct, run_equalIn_agi 9998 ht xs hl w]
  rfl

/-! An array laid into a new block. -/
theorem Blk.stored {w : World} {g : Nat} {t : TypeId} {cs c2 : Array Value} (h : Blk w g t cs) (o : Obj) : Blk ((w.alloc o).setRow w.heap.size c2) g t cs :=
  Blk.rowFar (Blk.alloc h o) (by have := Blk.lt h; omega)
theorem IB.stored (w : World) (t : TypeId) (zs ys : List Int) : IB ((w.alloc (.cells (agi zs) t)).setRow w.heap.size (agi ys)) w.heap.size t ys := (IB.new w t zs).setRow ys
theorem below_stored (w : World) (o : Obj) (c2 : Array Value) : Below w.heap.size w ((w.alloc o).setRow w.heap.size c2) :=
  below_setRow ((Below.refl _ w).alloc (Nat.le_refl _) o) (Nat.le_refl _) c2
end Go.Proofs.Ytcfmipobgljbeaa

/- The walks of Expand, the program's and the reference's, and of the law LpcExpands. -/
namespace Go.Proofs.Ytcfmipobgljbeaa
set_option linter.unusedVariables false
set_option linter.unusedSimpArgs false
set_option maxRecDepth 100000
open Go.RowKit

def Exps (w : World) (a : List Int) (g : Int) (e : Ending) (w' : World) : Prop := e = .returned (.tuple #[.agg (agi (exL a g)), .int .i64 (errOf (exB a g))]) ∧ Below w.heap.size w w'
theorem exp_bad {w w' : World} {a : List Int} {g : Int} (h : exB a g = false) (hB : Below w.heap.size w w') : Exps w a g (.returned (.tuple #[.agg (agi Z9), .int .i64 2])) w' := by
  refine ⟨?_, hB⟩
  unfold exL errOf
  rw [h]
  rfl
theorem exp_good {w w' : World} {a ys : List Int} {g : Int} (h : exB a g = true) (hl : ys.length = 9) (hy : ∀ j, j < 9 → ys.getD j 0 = exE a g j) (hB : Below w.heap.size w w') : Exps w a g (.returned (.tuple #[.agg (agi ys), .int .i64 0])) w' := by
  refine ⟨?_, hB⟩
  have e : ys = exL a g := by
    apply list_ext (by rw [hl, exL_len])
    intro j hj
    rw [hy j (by omega)]
    unfold exL
    rw [if_pos h, List.getD_eq_getElem?_getD, List.getElem?_map, List.getElem?_range (by omega)]
    rfl
  unfold errOf
  rw [h, e]
  rfl
theorem okA_yes {x : Int} (h1 : -1073741824 ≤ x) (h2 : x ≤ 1073741824) : okA x = true := by unfold okA; simp; omega
theorem okA_no {x : Int} (h : x < -1073741824 ∨ 1073741824 < x) : okA x = false := by unfold okA; simp; omega
theorem exB_g {a : List Int} {g : Int} (h : g < 0 ∨ 32768 < g) : exB a g = false := by unfold exB; simp; omega
theorem exB_a {a : List Int} {g : Int} {k : Nat} (hk : k < a.length) (h : a.getD k 0 < -1073741824 ∨ 1073741824 < a.getD k 0) : exB a g = false := by
  unfold exB; rw [all_no hk (okA_no h)]; simp
theorem exB_yes {a : List Int} {g : Int} (h0 : 0 ≤ g) (h1 : g ≤ 32768) (h : allTo okA a 9) (hl : a.length = 9) : exB a g = true := by
  unfold exB; rw [h.all (by omega)]; simp; omega
theorem ex_prod {x f : Int} (h1 : -1073741824 ≤ x) (h2 : x ≤ 1073741824) (h3 : 0 ≤ f) (h4 : f ≤ 32768) : -35184372088832 ≤ x * f ∧ x * f ≤ 35184372088832 := by
  have := mul_bound (x := x) (X := 1073741824) (y := f) (Y := 32768) (by omega) (by omega) ⟨by omega, by omega⟩ ⟨by omega, by omega⟩
  omega
theorem ex_fprod {f g : Int} (h1 : 0 ≤ f) (h2 : f ≤ 32768) (h3 : 0 ≤ g) (h4 : g ≤ 32768) : 0 ≤ f * g ∧ f * g ≤ 1073741824 := by
  have := mul_bound (x := f) (X := 32768) (y := g) (Y := 32768) (by omega) (by omega) ⟨by omega, by omega⟩ ⟨by omega, by omega⟩
  have := Int.mul_nonneg h1 h3
  omega

/-- The argument's box, the answer's, what lies below untouched. -/
structure Bx2 (t : TypeId) (w wr : World) (a r : List Int) : Prop where
  A : IB wr w.heap.size t a
  R : IB wr (w.heap.size + 1) 23 r
  bel : Below w.heap.size w wr
theorem Bx2.lt {t : TypeId} {w wr : World} {a r : List Int} (h : Bx2 t w wr a r) : w.heap.size + 1 < wr.heap.size := Blk.lt h.R
theorem Bx2.below {t : TypeId} {w wr wr' : World} {a r : List Int} (h : Bx2 t w wr a r) (hb : Below wr.heap.size wr wr') : Bx2 t w wr' a r :=
  ⟨Blk.below' h.A hb, Blk.below' h.R hb, h.bel.trans (hb.mono (by have := h.lt; omega))⟩
theorem Bx2.setCell {t : TypeId} {w wr : World} {a r : List Int} (h : Bx2 t w wr a r) {g : Nat} (hg : w.heap.size + 1 < g) (k : Nat) (v : Value) : Bx2 t w (wr.setCell ⟨g, k, none⟩ v) a r :=
  ⟨Blk.far h.A (by show w.heap.size ≠ g; omega) _, Blk.far h.R (by show w.heap.size + 1 ≠ g; omega) _, h.bel.setCell (p := ⟨g, k, none⟩) (by show w.heap.size ≤ g; omega) _⟩
theorem Bx2.setA {t : TypeId} {w wr : World} {a r : List Int} (h : Bx2 t w wr a r) (k : Nat) (v : Int) : Bx2 t w (wr.setCell ⟨w.heap.size, k, none⟩ (.int .i64 v)) (a.set k v) r :=
  ⟨IB.set_ h.A k v, Blk.far h.R (by show w.heap.size + 1 ≠ w.heap.size; omega) _, h.bel.setCell (p := ⟨w.heap.size, k, none⟩) (Nat.le_refl _) _⟩
theorem Bx2.drew {t : TypeId} {w wr : World} {a r : List Int} (h : Bx2 t w wr a r) : Bx2 t w wr.drew a r := ⟨h.A, h.R, h.bel.drew⟩
theorem Bx2.start (t : TypeId) (w : World) (a : List Int) : Bx2 t w ((w.alloc (.cells (agi a) t)).alloc (.cells (agi Z9) 23)) a Z9 := by
  have h1 := IB.new w t a
  have h2 := IB.new (w.alloc (.cells (agi a) t)) 23 Z9
  simp only [World.size_alloc] at h2
  exact ⟨Blk.alloc h1 _, h2, (((Below.refl _ _).alloc (Nat.le_refl _) _).alloc (by simp) _)⟩

set_option maxHeartbeats 4000000 in
theorem expand_any (a : List Int) (g : Int) (w : World) (ha : a.length = 9) : Calls Try.prog 59 #[.agg (agi a), .int .i64 g] w (Exps w a g) := by
  have I0 := hid (Bx2.start 23 w a)
  have hR := results_row2 (fn := Try.f59) (p := 4) (q := 5) (ty := 23) rfl
  have HA := hid ha
  by_cases h1 : g < 0 ∨ 32768 < g
  · have FIN := hid (exp_bad (a := a) (g := g) (exB_g h1) (below_setRow I0.out.bel (g := w.heap.size + 1) (by omega) (agi Z9)))
    have hRow2 := hid (I0.out.R.setRow Z9)
    clear ha
    rcases h1 with h1 | h1
    · have d1 : decide (g < 0) = true := by simpa using h1
      go_enter Try.func59, Try.ntmps59
      go_wp2_with (refine wpList_storeI rfl 23 (.tmp 4) (.tmp 14) rfl _ 23 Z9 Z9 9 rfl rfl I0.out.R size9 rfl rfl ?_)
      refine bodyPost_ret (v := _) (hR _ _ _ 23 Z9 _ 9 rfl hRow2.out Try.underlying23 rfl size9 rfl) rfl ?_
      exact FIN.out
    · have d1 : decide (g < 0) = false := by simp; omega
      have d2 : decide (32768 < g) = true := by simpa using h1
      go_enter Try.func59, Try.ntmps59
      go_wp2_with (refine wpList_storeI rfl 23 (.tmp 4) (.tmp 14) rfl _ 23 Z9 Z9 9 rfl rfl I0.out.R size9 rfl rfl ?_)
      refine bodyPost_ret (v := _) (hR _ _ _ 23 Z9 _ 9 rfl hRow2.out Try.underlying23 rfl size9 rfl) rfl ?_
      exact FIN.out
  · have h0 : 0 ≤ g := by omega
    have h4 : g ≤ 32768 := by omega
    have d1 : decide (g < 0) = false := by simp; omega
    have d2 : decide (32768 < g) = false := by simp; omega
    have FX := hid (fun k => exF_range h0 h4 k)
    rw [z9_eq] at I0
    clear h1 ha
    go_enter Try.func59, Try.ntmps59
    go_wp2
    go_loopw [6, 15] (fun fv iv wr => ∃ (k : Nat) (ys : List Int) (f : Int), k ≤ 9 ∧ iv = .int .i64 k ∧ fv = .int .i64 f ∧ Hid (f = exF g k ∧ ys.length = 9 ∧ allTo okA a k ∧ (∀ j, j < k → ys.getD j 0 = exE a g j) ∧ ∀ j, k ≤ j → ys.getD j 0 = a.getD j 0) ∧ Hid (Bx2 23 w wr ys Z9)) (fun _ iv _ => 9 - (intOf iv).toNat)
    case atStart => exact ⟨0, a, 32768, by omega, rfl, rfl, hid ⟨rfl, HA.out, allTo.zero, fun j h => by omega, fun j _ => rfl⟩, I0⟩
    case round =>
      clear I0
      obtain ⟨k, ys, f, hk, rfl, rfl, HY, HI⟩ := hrel
      obtain ⟨f0, f1⟩ := FX.out k
      rw [← HY.out.1] at f0 f1
      by_cases hlt : k < 9
      · have ca := HI.out.A.cell k (by rw [HY.out.2.1]; exact hlt)
        have fa := Blk.frozen HI.out.A k
        rw [HY.out.2.2.2.2 k (Nat.le_refl _)] at ca
        obtain ⟨x, hx⟩ : ∃ x, x = a.getD k 0 := ⟨_, rfl⟩
        rw [← hx] at ca
        have HX := hid hx
        clear hx
        by_cases hbad : x < -1073741824 ∨ 1073741824 < x
        · have FIN := hid (exp_bad (a := a) (g := g) (exB_a (k := k) (by rw [HA.out]; exact hlt) (by rw [← HX.out]; exact hbad)) (below_setRow HI.out.bel (g := w.heap.size + 1) (by omega) (agi Z9)))
          have hRow := hid (HI.out.R.setRow Z9)
          rcases hbad with b1 | b1
          · go_wp2_with (refine wpList_storeI rfl 23 (.tmp 4) (.tmp 28) rfl _ 23 Z9 Z9 9 rfl rfl HI.out.R size9 rfl rfl ?_)
            refine bodyPost_ret (v := _) (hR _ _ _ 23 Z9 _ 9 rfl hRow.out Try.underlying23 rfl size9 rfl) rfl ?_
            exact FIN.out
          · have b0 : ¬ x < -1073741824 := by omega
            go_wp2_with (refine wpList_storeI rfl 23 (.tmp 4) (.tmp 28) rfl _ 23 Z9 Z9 9 rfl rfl HI.out.R size9 rfl rfl ?_)
            refine bodyPost_ret (v := _) (hR _ _ _ 23 Z9 _ 9 rfl hRow.out Try.underlying23 rfl size9 rfl) rfl ?_
            exact FIN.out
        · have b1 : -1073741824 ≤ x := by omega
          have b2 : x ≤ 1073741824 := by omega
          obtain ⟨m1, m2⟩ := ex_prod b1 b2 f0 f1
          obtain ⟨m3, m4⟩ := ex_fprod f0 f1 h0 h4
          have NEXT := hid (show Hid ((f * g + 16384) / 32768 = exF g (k + 1) ∧ (ys.set k ((x * f + 16384) / 32768)).length = 9 ∧ allTo okA a (k + 1) ∧ (∀ j, j < k + 1 → (ys.set k ((x * f + 16384) / 32768)).getD j 0 = exE a g j) ∧ ∀ j, k + 1 ≤ j → (ys.set k ((x * f + 16384) / 32768)).getD j 0 = a.getD j 0) from by
            obtain ⟨q0, q1, q2, q3, q4⟩ := HY.out
            refine ⟨by rw [q0]; rfl, by simpa using q1, q2.succ (by rw [← HX.out]; exact okA_yes b1 b2), fun j hj => ?_, fun j hj => ?_⟩
            · by_cases he : k = j
              · subst he
                rw [get_set_same _ _ _ (by omega), exE, ← HX.out, ← q0]
              · rw [get_set_other _ _ he]
                exact q3 j (by omega)
            · rw [get_set_other _ _ (by omega)]
              exact q4 j (by omega))
          have NI := hid (HI.out.setA k ((x * f + 16384) / 32768))
          clear hbad
          go_wp2
          go_roundw
          case rel => exact ⟨k + 1, _, _, by omega, by go_num, rfl, NEXT.out, NI⟩
          case measure => simp [intOf] <;> omega
      · obtain rfl : k = 9 := by omega
        have hg := exB_yes h0 h4 HY.out.2.2.1 HA.out
        have FIN := hid (exp_good hg HY.out.2.1 HY.out.2.2.2.1 (below_setRow HI.out.bel (g := w.heap.size + 1) (by omega) (agi ys)))
        have hRow := hid (HI.out.R.setRow ys)
        clear hlt hg
        go_wp2_with (first
          | (refine wpList_loadI rfl 23 (.tmp 2) rfl _ 23 ys 9 _ rfl HI.out.A Try.underlying23 rfl size9 HY.out.2.1 ?_)
          | (refine wpList_storeI rfl 23 (.tmp 4) (.tmp 44) rfl _ 23 Z9 ys 9 rfl rfl HI.out.R size9 rfl HY.out.2.1 ?_))
        refine bodyPost_ret (v := _) (hR _ _ _ 23 ys _ 9 rfl hRow.out Try.underlying23 rfl size9 HY.out.2.1) rfl ?_
        exact FIN.out
end Go.Proofs.Ytcfmipobgljbeaa

/- Plain facts on sums. No program in sight. -/
namespace Go.Proofs.Ytcfmipobgljbeaa
set_option linter.unusedVariables false
set_option linter.unusedSimpArgs false
set_option maxRecDepth 100000

theorem sumN_add (f g : Nat → Int) (n : Nat) : sumN (fun i => f i + g i) n = sumN f n + sumN g n := by
  induction n with
  | zero => rfl
  | succ n ih => simp only [sumN]; rw [ih]; omega
theorem sumN_mul (c : Int) (f : Nat → Int) (n : Nat) : sumN (fun i => c * f i) n = c * sumN f n := by
  induction n with
  | zero => simp [sumN]
  | succ n ih => simp only [sumN]; rw [ih, Int.mul_add]
theorem sumN_zero (n : Nat) : sumN (fun _ => 0) n = 0 := by
  induction n with
  | zero => rfl
  | succ n ih => simp only [sumN]; rw [ih]; rfl
theorem sumN_swap (f : Nat → Nat → Int) (m n : Nat) : sumN (fun i => sumN (fun j => f i j) n) m = sumN (fun j => sumN (fun i => f i j) m) n := by
  induction m with
  | zero => simp only [sumN]; rw [sumN_zero]
  | succ m ih => simp only [sumN]; rw [ih, sumN_add]
theorem sumN_front (f : Nat → Int) (n : Nat) : sumN f (n + 1) = f 0 + sumN (fun i => f (i + 1)) n := by
  induction n with
  | zero => simp [sumN]
  | succ n ih => rw [sumN, ih]; simp only [sumN]; omega
theorem sumN_rev (f : Nat → Int) (n : Nat) : sumN f n = sumN (fun i => f (n - 1 - i)) n := by
  induction n with
  | zero => rfl
  | succ n ih =>
    rw [sumN_front (fun i => f (n + 1 - 1 - i)) n, sumN, ih]
    have e : sumN (fun i => f (n + 1 - 1 - (i + 1))) n = sumN (fun i => f (n - 1 - i)) n := sumN_congr n (fun i hi => by congr 1; omega)
    rw [e]
    simp only [Nat.add_sub_cancel, Nat.sub_zero]
    omega
theorem sumN_split (f : Nat → Int) (m n : Nat) : sumN f (m + n) = sumN f m + sumN (fun i => f (m + i)) n := by
  induction n with
  | zero => simp [sumN]
  | succ n ih => rw [← Nat.add_assoc, sumN, ih]; simp only [sumN]; omega
theorem sumN_head_zero (f : Nat → Int) (m n : Nat) (h : ∀ i, i < m → f i = 0) : sumN f (m + n) = sumN (fun i => f (m + i)) n := by
  rw [sumN_split, sumN_congr m (g := fun _ => 0) h, sumN_zero]; omega
end Go.Proofs.Ytcfmipobgljbeaa

/- Plain facts on the filter that makes speech. No program in sight. -/
namespace Go.Proofs.Ytcfmipobgljbeaa
set_option linter.unusedVariables false
set_option linter.unusedSimpArgs false
set_option maxRecDepth 100000

def okP1 (x : Int) : Bool := decide (-1048576 ≤ x ∧ x ≤ 1048576)
theorem okP1_yes {x : Int} (h1 : -1048576 ≤ x) (h2 : x ≤ 1048576) : okP1 x = true := by unfold okP1; simp; omega
theorem okP1_no {x : Int} (h : x < -1048576 ∨ 1048576 < x) : okP1 x = false := by unfold okP1; simp; omega
def okP (a : List Int) : Bool := a.all okP1
theorem okP_at {a : List Int} (h : okP a = true) (i : Nat) : -1048576 ≤ a.getD i 0 ∧ a.getD i 0 ≤ 1048576 := by
  by_cases hi : i < a.length
  · have := List.all_eq_true.mp h _ (List.getElem_mem hi)
    rw [List.getD_eq_getElem?_getD, List.getElem?_eq_getElem hi]
    unfold okP1 at this
    simpa using this
  · rw [List.getD_eq_getElem?_getD, List.getElem?_eq_none (by omega)]
    simp
def goodF (a p l : List Int) : Bool := okP a && (decide (a.getD 0 0 = 4096) && (all16 p && all16 l))

def gterm (a p : List Int) (i : Nat) : Int := a.getD (i + 1) 0 * p.getD i 0
theorem gterm_bound {a p : List Int} (ha : okP a = true) (hp : all16 p = true) (i : Nat) : -34359738368 ≤ gterm a p i ∧ gterm a p i ≤ 34359738368 := by
  have h1 := okP_at ha (i + 1)
  have h2 := all16_at hp i
  have := mul_bound (x := a.getD (i + 1) 0) (X := 1048576) (y := p.getD i 0) (Y := 32768) (by omega) (by omega) ⟨by omega, by omega⟩ ⟨by omega, by omega⟩
  unfold gterm
  omega
theorem gsum_bound {a p : List Int} (ha : okP a = true) (hp : all16 p = true) (n : Nat) : -(34359738368 * (n : Int)) ≤ sumN (gterm a p) n ∧ sumN (gterm a p) n ≤ 34359738368 * (n : Int) := by
  induction n with
  | zero => simp [sumN]
  | succ n ih =>
    have := gterm_bound ha hp n
    simp only [sumN]
    push_cast
    omega
def guessL (a p : List Int) : Int := (2048 + sumN (gterm a p) 8) / 4096
theorem guess_bound {a p : List Int} (ha : okP a = true) (hp : all16 p = true) : -1000000000 ≤ guessL a p ∧ guessL a p ≤ 1000000000 := by
  have := gsum_bound ha hp 8
  unfold guessL
  omega

def pushL (p : List Int) (x : Int) : List Int := x :: p.take 7
theorem pushL_len {p : List Int} (h : p.length = 8) (x : Int) : (pushL p x).length = 8 := by simp [pushL, h]
theorem all16_take {p : List Int} (h : all16 p = true) (n : Nat) : all16 (p.take n) = true := by
  unfold all16 at *
  rw [List.all_eq_true] at *
  intro x hx
  exact h x (List.mem_of_mem_take hx)
theorem all16_push {p : List Int} (h : all16 p = true) {x : Int} (hx : ok16 x = true) : all16 (pushL p x) = true := by
  have := all16_take h 7
  unfold all16 at *
  simp [pushL, hx, this]
theorem ok16_s16 (x : Int) : ok16 (s16 x) = true := by
  have := s16_range x
  exact ok16_yes (by omega) (by omega)

/-- The newest eight of numbers behind a past, the newest first. -/
def newL (p : List Int) : List Int → List Int
  | [] => p
  | x :: xs => newL (pushL p x) xs
theorem newL_len : ∀ (l p : List Int), p.length = 8 → (newL p l).length = 8
  | [], _, h => h
  | x :: xs, p, h => newL_len xs (pushL p x) (pushL_len h x)
theorem newL_snoc : ∀ (l p : List Int) (x : Int), newL p (l ++ [x]) = pushL (newL p l) x
  | [], _, _ => rfl
  | y :: ys, p, x => newL_snoc ys (pushL p y) x
theorem newL_all : ∀ (l p : List Int), all16 p = true → all16 l = true → all16 (newL p l) = true
  | [], _, h, _ => h
  | x :: xs, p, h, hl => by
    have h2 : ok16 x = true ∧ all16 xs = true := by simpa [all16] using hl
    exact newL_all xs (pushL p x) (all16_push h h2.1) h2.2
theorem pushL_get {p : List Int} (x : Int) (i : Nat) (hi : i < 8) : (pushL p x).getD i 0 = if i = 0 then x else p.getD (i - 1) 0 := by
  rcases i with _ | i
  · simp [pushL]
  · have h7 : i < 7 := by omega
    simp [pushL, h7]
/-- The reference's row. -/
def newAt (p l : List Int) (i : Nat) : Int := if i < l.length then l.getD (l.length - 1 - i) 0 else p.getD (i - l.length) 0
theorem newAt_snoc (p l : List Int) (x : Int) (i : Nat) : newAt p (l ++ [x]) i = if i = 0 then x else newAt p l (i - 1) := by
  unfold newAt
  rcases i with _ | i
  · simp
  · simp only [List.length_append, List.length_singleton, Nat.add_sub_cancel, Nat.succ_ne_zero, if_false]
    by_cases h : i < l.length
    · rw [if_pos (by omega), if_pos h]
      have e : l.length - (i + 1) = l.length - 1 - i := by omega
      rw [e, List.getD_eq_getElem?_getD, List.getD_eq_getElem?_getD, List.getElem?_append_left (by omega)]
    · rw [if_neg (by omega), if_neg h]
      congr 1
      omega
theorem newL_get (p : List Int) (l : List Int) : ∀ i, i < 8 → (newL p l).getD i 0 = newAt p l i := by
  induction hl : l.length generalizing l with
  | zero =>
    intro i _
    obtain rfl : l = [] := List.eq_nil_of_length_eq_zero hl
    simp [newL, newAt]
  | succ n ih =>
    intro i hi
    have hne : l ≠ [] := by intro h; simp [h] at hl
    obtain ⟨m, x, rfl⟩ : ∃ m x, l = m ++ [x] := ⟨l.dropLast, l.getLast hne, (List.dropLast_concat_getLast hne).symm⟩
    rw [newL_snoc, newAt_snoc, pushL_get _ _ hi]
    split
    · rfl
    · exact ih m (by simpa using hl) (i - 1) (by omega)
theorem newL_range {p l : List Int} (hp : p.length = 8) : newL p l = (List.range 8).map (newAt p l) := by
  refine list_ext (by rw [newL_len _ _ hp]; simp) fun k hk => ?_
  rw [newL_len _ _ hp] at hk
  rw [newL_get p l k hk]
  simp [hk]

/-- The samples of an excitation. -/
def makeN (a p e : List Int) : Nat → List Int
  | 0 => []
  | n + 1 => makeN a p e n ++ [s16 (e.getD n 0 - guessL a (newL p (makeN a p e n)))]
theorem makeN_len (a p e : List Int) (n : Nat) : (makeN a p e n).length = n := by
  induction n with
  | zero => rfl
  | succ n ih => simp [makeN, ih]
theorem makeN_all (a p e : List Int) (n : Nat) : all16 (makeN a p e n) = true := by
  induction n with
  | zero => rfl
  | succ n ih =>
    unfold all16 at *
    simp [makeN, ih, ok16_s16]
/-- The excitation of samples. -/
def undoN (a p l : List Int) : Nat → List Int
  | 0 => []
  | n + 1 => undoN a p l n ++ [s16 (l.getD n 0 + guessL a (newL p (l.take n)))]
theorem undoN_len (a p e : List Int) (n : Nat) : (undoN a p e n).length = n := by
  induction n with
  | zero => rfl
  | succ n ih => simp [undoN, ih]
theorem take_snoc {l : List Int} {n : Nat} (h : n < l.length) : l.take (n + 1) = l.take n ++ [l.getD n 0] := by
  rw [List.take_add_one, List.getElem?_eq_getElem h]
  simp [List.getD_eq_getElem?_getD, List.getElem?_eq_getElem h]
end Go.Proofs.Ytcfmipobgljbeaa

/- Plain facts on the frame that is lost. -/
namespace Go.Proofs.Ytcfmipobgljbeaa
set_option linter.unusedVariables false
set_option linter.unusedSimpArgs false
set_option maxRecDepth 100000
open Go.RowKit

def eraA (m : Mm) : List Int := exL (dirL m.r) 32440
def playY (a p x : List Int) : List Int := if goodF a p x then makeN a p x x.length else []
def playP (a p x : List Int) : List Int := if goodF a p x then newL p (makeN a p x x.length) else Z8
def stM (a : List Int) (m : Mm) (s : Int) : Mm := { eraR m s with p := playP a (eraR m s).p (eraY m s) }
def stY (a : List Int) (m : Mm) (s : Int) : List Int := playY a (eraR m s).p (eraY m s)
def coM (m : Mm) : Mm := if goodM m then stM (eraA m) (stM (eraA m) m 0) 1 else zeroM
def coY (m : Mm) : List Int := if goodM m then stY (eraA m) m 0 ++ stY (eraA m) (stM (eraA m) m 0) 1 else []
theorem playP_len {a p x : List Int} (hp : p.length = 8) : (playP a p x).length = 8 := by
  unfold playP
  split
  · exact newL_len _ _ hp
  · rfl
theorem playY_len (a p x : List Int) : (playY a p x).length ≤ x.length := by
  unfold playY
  split
  · rw [makeN_len]; exact Nat.le_refl _
  · simp
theorem stM_ok {m : Mm} (k : m.ok) (a : List Int) (s : Int) : (stM a m s).ok := ⟨(eraR_ok k s).r, playP_len (eraR_ok k s).p, (eraR_ok k s).e⟩
theorem stY_len (a : List Int) (m : Mm) (s : Int) : (stY a m s).length ≤ 40 := Nat.le_trans (playY_len _ _ _) (eraY_len m s)
theorem coM_ok {m : Mm} (k : m.ok) : (coM m).ok := by
  unfold coM
  split
  · exact stM_ok (stM_ok k _ _) _ _
  · exact zeroM_ok
theorem coY_len (m : Mm) : (coY m).length ≤ 80 := by
  unfold coY
  split
  · have h1 := stY_len (eraA m) m 0
    have h2 := stY_len (eraA m) (stM (eraA m) m 0) 1
    rw [List.length_append]
    omega
  · simp
theorem playP_64 (a p x : List Int) : W64 (playP a p x) := by
  unfold playP
  split
  · next h =>
    have h' : okP a = true ∧ a.getD 0 0 = 4096 ∧ all16 p = true ∧ all16 x = true := by simpa [goodF] using h
    exact w64_of16 (newL_all _ _ h'.2.2.1 (makeN_all _ _ _ _))
  · intro y hy
    have : y = 0 := by simpa [Z8] using hy
    omega
theorem keepL_64 {h x : List Int} (hw : W64 h) : W64 (keepL h x) := fun y hy => by
  unfold keepL at hy
  rcases List.mem_append.1 hy with h1 | h1
  · exact hw y (List.mem_of_mem_drop h1)
  · obtain ⟨z, _, rfl⟩ := List.mem_map.1 h1
    have := s16_range z
    omega
theorem w64_parts {m : Mm} : W64 m.nums ↔ W64 m.r ∧ W64 m.p ∧ W64 m.e ∧ W64 [m.ga, m.pi, m.la, m.er, m.se] := by
  unfold Mm.nums W64
  simp only [List.mem_append]
  constructor
  · intro h
    exact ⟨fun x hx => h x (.inl hx), fun x hx => h x (.inr (.inl hx)), fun x hx => h x (.inr (.inr (.inl hx))), fun x hx => h x (.inr (.inr (.inr hx)))⟩
  · rintro ⟨h1, h2, h3, h4⟩ x (hx | hx | hx | hx)
    · exact h1 x hx
    · exact h2 x hx
    · exact h3 x hx
    · exact h4 x hx
theorem w64_zeros (n : Nat) : W64 (List.replicate n 0) := fun x hx => by
  have := (List.mem_replicate.1 hx).2
  omega
theorem eraR_64 {m : Mm} (hw : W64 m.nums) (s : Int) : W64 (eraR m s).nums := by
  unfold eraR
  split
  · obtain ⟨h1, h2, h3, h4⟩ := w64_parts.1 hw
    have hga := h4 m.ga (by simp)
    have hpi := h4 m.pi (by simp)
    have hla := h4 m.la (by simp)
    have her := h4 m.er (by simp)
    have hse := h4 m.se (by simp)
    refine w64_parts.2 ⟨h1, h2, keepL_64 h3, fun x hx => ?_⟩
    have e1 := nzE_range hse.1 hse.2 40
    have e2 : -9223372036854775808 ≤ er1 m s ∧ er1 m s ≤ 9223372036854775807 := by unfold er1; split <;> omega
    have hx' : x = m.ga ∨ x = m.pi ∨ x = m.la ∨ x = er1 m s ∨ x = nzE m.se 40 := by
      have := hx
      simp only [List.mem_cons, List.not_mem_nil, or_false] at this
      exact this
    rcases hx' with rfl | rfl | rfl | rfl | rfl
    · exact hga
    · exact hpi
    · exact hla
    · exact e2
    · exact e1
  · exact w64_parts.2 ⟨w64_zeros 8, w64_zeros 8, w64_zeros 80, fun x hx => by
      have : x = 0 := by simpa [zeroM] using hx
      omega⟩
theorem stM_64 {m : Mm} (hw : W64 m.nums) (a : List Int) (s : Int) : W64 (stM a m s).nums := by
  obtain ⟨h1, _, h3, h4⟩ := w64_parts.1 (eraR_64 hw s)
  exact w64_parts.2 ⟨h1, playP_64 _ _ _, h3, h4⟩
/-! The first memory's answer has eighty samples. -/
theorem keepL_in {h x : List Int} (hh : all16 h = true) : all16 (keepL h x) = true := by
  unfold all16 keepL at *
  rw [List.all_eq_true] at hh ⊢
  intro y hy
  rcases List.mem_append.1 hy with h1 | h1
  · exact hh y (List.mem_of_mem_drop h1)
  · obtain ⟨z, _, rfl⟩ := List.mem_map.1 h1
    have := s16_range z
    exact ok16_yes this.1 this.2
theorem mxL_in' (m : Mm) : all16 (eraX m) = true := mxL_in _ _ _ _ _
theorem coY_fresh : (coY freshM).length = 80 := by
  have g0 : goodM freshM = true := by decide
  obtain ⟨a, ha⟩ : ∃ a, a = eraA freshM := ⟨_, rfl⟩
  have ga : okP a = true ∧ a.getD 0 0 = 4096 := by rw [ha]; decide
  have b0 : eraB freshM 0 = true := by decide
  have r0 : eraR freshM 0 = eraN (eraP freshM 0) := by unfold eraR; rw [if_pos b0]
  have y0 : eraY freshM 0 = eraX (eraP freshM 0) := by unfold eraY; rw [if_pos b0]
  have l0 : (eraX (eraP freshM 0)).length = 40 := eraX_len (m := eraP freshM 0) ⟨by decide, by decide⟩
  have i0 : all16 (eraX (eraP freshM 0)) = true := mxL_in _ _ _ _ _
  have p0 : all16 (eraR freshM 0).p = true := by rw [r0]; decide
  have f0 : goodF a (eraR freshM 0).p (eraY freshM 0) = true := by unfold goodF; rw [y0, i0, p0, ga.1, ga.2]; rfl
  have n0 : (stY a freshM 0).length = 40 := by unfold stY playY; rw [if_pos f0, makeN_len, y0, l0]
  obtain ⟨m1, hm1⟩ : ∃ m1, m1 = stM a freshM 0 := ⟨_, rfl⟩
  have q1 : all16 m1.p = true := by
    rw [hm1]
    show all16 (playP a (eraR freshM 0).p (eraY freshM 0)) = true
    unfold playP
    rw [if_pos f0]
    exact newL_all _ _ p0 (makeN_all _ _ _ _)
  have e1 : all16 m1.e = true := by
    rw [hm1]
    show all16 (eraR freshM 0).e = true
    rw [r0]
    exact keepL_in (by decide)
  have t1 : tailM m1 := by
    rw [hm1]
    show tailM { eraR freshM 0 with p := _ }
    rw [r0]
    have hs : 0 ≤ nzE 21845 40 ∧ nzE 21845 40 < 65536 := by
      have := nzS_range (nzE 21845 39)
      rw [show (40 : Nat) = 39 + 1 from rfl, nzE_succ]
      omega
    exact ⟨⟨(by decide : (20 : Int) ≤ 20), (by decide : (20 : Int) ≤ 79)⟩, hs, ⟨(by decide : (0 : Int) ≤ 0), (by decide : (0 : Int) ≤ 32767)⟩, ⟨(by decide : (0 : Int) ≤ 0), (by decide : (0 : Int) ≤ 18022)⟩, (by decide : (0 : Int) ≤ 1), (by decide : (1 : Int) ≤ 6)⟩
  have r1 : m1.r.all okK = true := by
    rw [hm1]
    show (eraR freshM 0).r.all okK = true
    rw [r0]; decide
  have g1 : goodM m1 = true := goodM_yes r1 q1 e1 t1
  have b1 : eraB m1 1 = true := by unfold eraB; rw [g1]; decide
  have r2 : eraR m1 1 = eraN (eraP m1 1) := by unfold eraR; rw [if_pos b1]
  have y1 : eraY m1 1 = eraX (eraP m1 1) := by unfold eraY; rw [if_pos b1]
  have l1 : (eraX (eraP m1 1)).length = 40 := eraX_len (m := eraP m1 1) t1.1
  have f1 : goodF a (eraR m1 1).p (eraY m1 1) = true := by
    have : all16 (eraR m1 1).p = true := by rw [r2]; exact q1
    unfold goodF
    rw [y1, mxL_in', this, ga.1, ga.2]; rfl
  have n1 : (stY a m1 1).length = 40 := by unfold stY playY; rw [if_pos f1, makeN_len, y1, l1]
  unfold coY
  rw [if_pos g0, ← ha, List.length_append, n0, ← hm1, n1]
end Go.Proofs.Ytcfmipobgljbeaa

/- The walk of package synth's good, guess and push. -/
namespace Go.Proofs.Ytcfmipobgljbeaa
set_option linter.unusedVariables false
set_option linter.unusedSimpArgs false
set_option maxRecDepth 100000
open Go.RowKit

set_option maxHeartbeats 4000000 in
theorem synthgood_any (a p l : List Int) (A : Option Addr) (c n B : Nat) (w : World) (ha : a.length = 9) (hp : p.length = 8) (hr : Rs w w.heap.size A l) (hn : l.length = n) (hl : n ≤ 17592186044416) :
    Calls Try.prog 112 #[.agg (agi a), .agg (agi p), .slice A n c] w (AnsB w (goodF a p l)) := by
  have hI := hid (IB.new w 23 a)
  have hJ := IB.new (w.alloc (.cells (agi a) 23)) 42 p
  simp only [World.size_alloc] at hJ
  have hJ := hid hJ
  have hI := hid (Blk.alloc hI.out (.cells (agi p) 42))
  have HA := hid ha
  have HP := hid hp
  have HN := hid hn
  have HR := hid (hr.below (((Below.refl _ w).alloc (Nat.le_refl _) (.cells (agi a) 23)).alloc (by simp) (.cells (agi p) 42)))
  have HB := hid (((Below.refl _ w).alloc (Nat.le_refl _) (.cells (agi a) 23)).alloc (by simp) (.cells (agi p) 42))
  have hix := fun (k : Nat) (hk : k < 9) (w : World) => run_index_agi Try.underlying23 a ha k hk w
  have HIX := hid hix
  have hjx := fun (k : Nat) (hk : k < 8) (w : World) => run_index_agi Try.underlying42 p hp k hk w
  have HJX := hid hjx
  clear ha hp hn hr hix hjx
  have c0 := IB.cell hI.out 0 (by rw [HA.out]; omega)
  obtain ⟨a0, ha0⟩ : ∃ a0, a0 = a.getD 0 0 := ⟨_, rfl⟩
  rw [← ha0] at c0
  have HA0 := hid ha0
  have C0 := hid c0
  clear ha0 c0
  go_enter Try.func112, Try.ntmps112
  go_wp2_with (refine wpList_loadI rfl 23 (.tmp 3) rfl _ 23 a 9 _ rfl hI.out Try.underlying23 rfl size9 HA.out ?_)
  go_loop [14] (fun iv => ∃ k : Nat, k ≤ 9 ∧ iv = .int .i64 k ∧ Hid (allTo okP1 a k)) (fun iv => 9 - (intOf iv).toNat)
  case atStart => exact ⟨0, by omega, rfl, hid allTo.zero⟩
  case round =>
    obtain ⟨k, hk, rfl, HY⟩ := hrel
    by_cases hlt : k < 9
    · have hix := HIX.out k hlt
      obtain ⟨x, hx⟩ : ∃ x, x = a.getD k 0 := ⟨_, rfl⟩
      rw [← hx] at hix
      have HX := hid hx
      clear hx
      by_cases b1 : x < -1048576
      · have HF := hid (show okP a = false from all_no (i := k) (by rw [HA.out]; exact hlt) (okP1_no (by rw [← HX.out]; exact .inl b1)))
        go_wp2
        go_ret
        exact ⟨by unfold goodF; rw [HF.out]; rfl, HB.out⟩
      by_cases b2 : 1048576 < x
      · have HF := hid (show okP a = false from all_no (i := k) (by rw [HA.out]; exact hlt) (okP1_no (by rw [← HX.out]; exact .inr b2)))
        go_wp2
        go_ret
        exact ⟨by unfold goodF; rw [HF.out]; rfl, HB.out⟩
      have HN2 := hid (HY.out.succ (by rw [← HX.out]; exact okP1_yes (by omega) (by omega)))
      go_wp2
      go_round
      case rel => exact ⟨k + 1, by omega, by go_num, HN2⟩
      case measure => simp [intOf] <;> omega
    · obtain rfl : k = 9 := by omega
      have HF9 := hid (show okP a = true from HY.out.all (by rw [HA.out]; exact Nat.le_refl _))
      clear hlt HY
      go_wp2_with (refine wpList_loadI rfl 42 (.tmp 4) rfl _ 42 p 8 _ rfl hJ.out Try.underlying42 rfl size8 HP.out ?_)
      go_loop [25] (fun iv => ∃ k : Nat, k ≤ 8 ∧ iv = .int .i64 k ∧ Hid (allTo ok16 p k)) (fun iv => 8 - (intOf iv).toNat)
      case atStart => exact ⟨0, by omega, rfl, hid allTo.zero⟩
      case round =>
        obtain ⟨k, hk, rfl, HY⟩ := hrel
        by_cases hlt : k < 8
        · have hix := HJX.out k hlt
          obtain ⟨x, hx⟩ : ∃ x, x = p.getD k 0 := ⟨_, rfl⟩
          rw [← hx] at hix
          have HX := hid hx
          clear hx
          by_cases hbad : x < -32768 ∨ 32767 < x
          · have HF := hid (show all16 p = false from all_no (i := k) (by rw [HP.out]; exact hlt) (ok16_no (by rw [← HX.out]; exact hbad)))
            have e1 : (x == s16 x) = false := by rw [beq_eq_false_iff_ne]; exact fun h => s16_ne hbad h.symm
            have e2 : (x != s16 x) = true := by rw [bne_iff_ne]; exact fun h => s16_ne hbad h.symm
            clear hbad
            go_wp2_with (go_at_call 113; refine (synthsat_any _ _).mono ?_; rintro e w' ⟨rfl, rfl⟩)
            go_ret
            exact ⟨by unfold goodF; rw [HF.out]; simp, HB.out⟩
          · have HN2 := hid (HY.out.succ (by rw [← HX.out]; exact ok16_yes (by omega) (by omega)))
            have e0 := s16_id (x := x) (by omega) (by omega)
            clear hbad
            go_wp2_with (go_at_call 113; refine (synthsat_any _ _).mono ?_; rintro e w' ⟨rfl, rfl⟩)
            go_round
            case rel => exact ⟨k + 1, by omega, by go_num, HN2⟩
            case measure => simp [intOf] <;> omega
        · obtain rfl : k = 8 := by omega
          have HF8 := hid (show all16 p = true from HY.out.all (by rw [HP.out]; exact Nat.le_refl _))
          clear hlt HY
          go_wp2
          go_loop [35] (fun iv => ∃ k : Nat, k ≤ n ∧ iv = .int .i64 k ∧ Hid (allTo ok16 l k)) (fun iv => n - (intOf iv).toNat)
          case atStart => exact ⟨0, by omega, rfl, hid allTo.zero⟩
          case round =>
            obtain ⟨k, hk, rfl, HY⟩ := hrel
            by_cases hlt : k < n
            · obtain ⟨ad, rfl, _, c1⟩ := HR.out.at_ (k := k) (by rw [HN.out]; exact hlt)
              obtain ⟨x, hx⟩ : ∃ x, x = l.getD k 0 := ⟨_, rfl⟩
              rw [← hx] at c1
              have HX := hid hx
              clear hx
              by_cases hbad : x < -32768 ∨ 32767 < x
              · have HF := hid (show all16 l = false from all_no (i := k) (by rw [HN.out]; exact hlt) (ok16_no (by rw [← HX.out]; exact hbad)))
                have e1 : (x == s16 x) = false := by rw [beq_eq_false_iff_ne]; exact fun h => s16_ne hbad h.symm
                have e2 : (x != s16 x) = true := by rw [bne_iff_ne]; exact fun h => s16_ne hbad h.symm
                clear hbad
                go_wp2_with (go_at_call 113; refine (synthsat_any _ _).mono ?_; rintro e w' ⟨rfl, rfl⟩)
                go_ret
                exact ⟨by unfold goodF; rw [HF.out]; simp, HB.out⟩
              · have HN2 := hid (HY.out.succ (by rw [← HX.out]; exact ok16_yes (by omega) (by omega)))
                have e0 := s16_id (x := x) (by omega) (by omega)
                clear hbad
                go_wp2_with (go_at_call 113; refine (synthsat_any _ _).mono ?_; rintro e w' ⟨rfl, rfl⟩)
                go_round
                case rel => exact ⟨k + 1, by omega, by go_num, HN2⟩
                case measure => simp [intOf] <;> omega
            · have HF := hid (show all16 l = true from HY.out.all (by rw [HN.out]; omega))
              have c0 := C0.out
              go_wp2
              go_ret
              exact ⟨by unfold goodF; rw [HF9.out, HF8.out, HF.out, ← HA0.out]; simp only [Bool.true_and, Bool.and_true]; rfl, HB.out⟩

set_option maxHeartbeats 2000000 in
theorem synthguess_any (a p : List Int) (w : World) (ha : a.length = 9) (hp : p.length = 8) (oa : okP a = true) (op : all16 p = true) :
    Calls Try.prog 114 #[.agg (agi a), .agg (agi p)] w fun e w' => e = .returned (.int .i64 (guessL a p)) ∧ Below w.heap.size w w' := by
  have hI := hid (IB.new w 23 a)
  have hJ := IB.new (w.alloc (.cells (agi a) 23)) 42 p
  simp only [World.size_alloc] at hJ
  have hJ := hid hJ
  have hI := hid (Blk.alloc hI.out (.cells (agi p) 42))
  have HA := hid ha
  have HP := hid hp
  have HB := hid (((Below.refl _ w).alloc (Nat.le_refl _) (.cells (agi a) 23)).alloc (by simp) (.cells (agi p) 42))
  have hjx := fun (k : Nat) (hk : k < 8) (w : World) => run_index_agi Try.underlying42 p hp k hk w
  have HJX := hid hjx
  have OA := hid oa
  have OP := hid op
  clear ha hp hjx oa op
  go_enter Try.func114, Try.ntmps114
  go_wp2_with (refine wpList_loadI rfl 42 (.tmp 3) rfl _ 42 p 8 _ rfl hJ.out Try.underlying42 rfl size8 HP.out ?_)
  go_loop [5, 9] (fun sv iv => ∃ (k : Nat) (s : Int), k ≤ 8 ∧ iv = .int .i64 k ∧ sv = .int .i64 s ∧ Hid (s = 2048 + sumN (gterm a p) k)) (fun _ iv => 8 - (intOf iv).toNat)
  case atStart => exact ⟨0, 2048, by omega, rfl, rfl, hid rfl⟩
  case round =>
    obtain ⟨k, s, hk, rfl, rfl, HS⟩ := hrel
    by_cases hlt : k < 8
    · have hjx := HJX.out k hlt
      have ci := IB.cell hI.out (k + 1) (by rw [HA.out]; omega)
      have tb := gterm_bound OA.out OP.out k
      have sb := gsum_bound OA.out OP.out k
      have HT := hid (show 2048 + sumN (gterm a p) (k + 1) = s + gterm a p k by rw [HS.out]; simp only [sumN]; omega)
      have hs := HS.out
      have s1 : -300000000000 ≤ s := by omega
      have s2 : s ≤ 300000000000 := by omega
      clear hs sb
      unfold gterm at tb HT
      generalize a.getD (k + 1) 0 = x at *
      generalize p.getD k 0 = y at *
      obtain ⟨t1, t2⟩ := tb
      have HS2 := hid (show s + x * y = 2048 + sumN (fun i => a.getD (i + 1) 0 * p.getD i 0) (k + 1) from HT.out.symm)
      clear HT HS
      go_wp2
      go_round
      case rel => exact ⟨k + 1, _, by omega, by go_num, rfl, HS2⟩
      case measure => simp [intOf] <;> omega
    · obtain rfl : k = 8 := by omega
      have HF := hid (show s / 4096 = guessL a p by unfold guessL; rw [HS.out])
      go_wp2
      go_ret
      exact ⟨by rw [← HF.out]; rfl, HB.out⟩
end Go.Proofs.Ytcfmipobgljbeaa

/- The walk of package synth's push. -/
namespace Go.Proofs.Ytcfmipobgljbeaa
set_option linter.unusedVariables false
set_option linter.unusedSimpArgs false
set_option maxRecDepth 100000
open Go.RowKit

set_option maxHeartbeats 2000000 in
theorem synthpush_any (p : List Int) (x : Int) (w : World) (hp : p.length = 8) :
    Calls Try.prog 115 #[.agg (agi p), .int .i64 x] w fun e w' => e = .returned (.agg (agi (pushL p x))) ∧ Below w.heap.size w w' := by
  have hR := results_row1 (fn := Try.f115) (p := 4) (ty := 42) rfl
  have I0 := IB.new w 42 p
  have HA := hid (Blk.alloc I0 (.cells (agi Z8) 42))
  have J0 := IB.new (w.alloc (.cells (agi p) 42)) 42 Z8
  simp only [World.size_alloc] at J0
  have HJ := hid J0
  have HB := hid (((Below.refl _ w).alloc (Nat.le_refl _) (.cells (agi p) 42)).alloc (by simp) (.cells (agi Z8) 42))
  rw [z8_eq] at HA HJ HB
  have HP := hid hp
  have hl7 : (p.take 7).length = 7 := by simp [hp]
  have L7 := hid hl7
  obtain ⟨zs, hz⟩ : ∃ zs, zs = p.take 1 ++ p.take 7 ++ p.drop (1 + (p.take 7).length) := ⟨_, rfl⟩
  have hzs : zs.set 0 x = pushL p x := by
    rw [hz, hl7]
    have e8 : p.drop 8 = [] := List.drop_eq_nil_of_le (by omega)
    rw [e8]
    match p, hp with
    | a :: q, _ => simp [pushL]
  have hzl : zs.length = 8 := by rw [hz, hl7]; simp; omega
  have HZ := hid hz
  have HZS := hid hzs
  have HZL := hid hzl
  have c7 : ∀ j, j < 7 → (p.take 7).getD j 0 = p.getD j 0 := fun j hj => by simp [hj]
  have C7 := hid c7
  clear hp hl7 hz hzs hzl c7 I0 J0
  go_enter Try.func115, Try.ntmps115
  go_wp2
  go_region_law (refine step_copyI rfl (.tmp 5) (.tmp 6) 22 22 rfl Try.underlying22 w.heap.size 1 7 7 ⟨w.heap.size, 0, none⟩ 7 8 (by simp [Act.eval, Act.put]) (by simp [Act.eval, Act.put]) 42 p (p.take 7) zs HA.out (by rw [L7.out]; rfl) (fun j hj => by rw [add_zero']; rw [L7.out] at hj; rw [C7.out j hj]; exact IB.cell HA.out j (by rw [HP.out]; omega)) (by rw [L7.out, HP.out]; omega) HZ.out ?_)
  generalize hw4 : World.setRow _ _ _ = w4
  have IA : IB w4 w.heap.size 42 zs := by rw [← hw4]; exact IB.setRow (Blk.drew HA.out) zs
  have IJ : IB w4 (w.heap.size + 1) 42 Z8 := by rw [← hw4]; exact Blk.rowFar (Blk.drew HJ.out) (by omega)
  have IL : Below w.heap.size w w4 := by rw [← hw4]; exact (Below.drew HB.out).trans (below_setRow (Below.refl _ _) (Nat.le_refl _) _)
  have IA := hid IA
  have IJ := hid IJ
  have IL := hid IL
  clear hw4 HA HJ HB
  have c0 := IB.cell IA.out 0 (by rw [HZL.out]; omega)
  have f0 := Blk.frozen IA.out 0
  have IA2 := hid (show IB (w4.setCell ⟨w.heap.size, 0, none⟩ (.int .i64 x)) w.heap.size 42 (pushL p x) by rw [← HZS.out]; exact IB.set_ IA.out 0 x)
  have IJ2 := hid (show IB (w4.setCell ⟨w.heap.size, 0, none⟩ (.int .i64 x)) (w.heap.size + 1) 42 Z8 from Blk.far IJ.out (by show w.heap.size + 1 ≠ w.heap.size; omega) _)
  have IL2 := hid (IL.out.setCell (p := ⟨w.heap.size, 0, none⟩) (Nat.le_refl _) (.int .i64 x))
  have LP := hid (pushL_len HP.out x)
  have FIN := hid (below_setRow IL2.out (g := w.heap.size + 1) (by omega) (agi (pushL p x)))
  have hRow := hid (IB.setRow IJ2.out (pushL p x))
  go_wp2_with (first
    | (refine wpList_loadI rfl 42 (.tmp 2) rfl _ 42 (pushL p x) 8 _ rfl IA2.out Try.underlying42 rfl size8 LP.out ?_)
    | (refine wpList_storeI rfl 42 (.tmp 4) (.tmp 10) rfl _ 42 Z8 (pushL p x) 8 rfl rfl IJ2.out size8 rfl LP.out ?_))
  refine bodyPost_ret (v := _) (hR _ _ _ 42 (pushL p x) _ 8 rfl hRow.out Try.underlying42 rfl size8 LP.out) rfl ?_
  exact ⟨rfl, FIN.out⟩
end Go.Proofs.Ytcfmipobgljbeaa

/- The walks of package synth's Make and Undo. -/
namespace Go.Proofs.Ytcfmipobgljbeaa
set_option linter.unusedVariables false
set_option linter.unusedSimpArgs false
set_option maxRecDepth 100000
open Go.RowKit

/-- The answer: a slice, an array in a block, a number. -/
theorem results_mid3 {fn : Func} {p q r : Tmp} {ty : TypeId} (h : fn.results = #[.tmp p, .cell q ty, .tmp r]) (tmps : Array Value) (w : World) (g : Nat) (t : TypeId) (xs : List Int) (d : TypeDesc) (n : Nat)
    (hp : tmps.getD q undef = .pointer (some ⟨g, 0, none⟩)) (hg : IB w g t xs) (hu : Try.prog.underlying ty = some d) (hd : isAggD d = true) (hi : (Try.prog.info? ty).map (·.size) = some n) (hl : xs.length = n) :
    (results fn tmps).run Try.prog w = .ok (.tuple #[tmps.getD p undef, .agg (agi xs), tmps.getD r undef]) w := by
  have hp' : tmps[q]?.getD undef = .pointer (some ⟨g, 0, none⟩) := by simpa using hp
  have hr := run_loadVar_row (P := Try.prog) w g t ty (agi xs) (0, 0) d hg hu (by cases d <;> first | rfl | (simp [isAggD] at hd)) (by rw [hi, agi_size, hl])
  simp [results, h, hp', asAddr, hr]

def NewSP (w : World) (ys q : List Int) (er : Int) (e : Ending) (w' : World) : Prop := ∃ A c, e = .returned (.tuple #[.slice A ys.length c, .agg (agi q), .int .i64 er]) ∧ Own w' w.heap.size A c ys ∧ Below w.heap.size w w'

/-- The three boxes: the predictor, the past, the answer's past. -/
structure Sx (w wr : World) (a q : List Int) : Prop where
  A : IB wr w.heap.size 23 a
  P : IB wr (w.heap.size + 1) 42 q
  R : IB wr (w.heap.size + 2) 42 Z8
  bel : Below w.heap.size w wr
theorem Sx.lt {w wr : World} {a q : List Int} (h : Sx w wr a q) : w.heap.size + 3 ≤ wr.heap.size := Blk.lt h.R
theorem Sx.below {w wr wr' : World} {a q : List Int} (h : Sx w wr a q) (hb : Below wr.heap.size wr wr') : Sx w wr' a q :=
  ⟨Blk.below' h.A hb, Blk.below' h.P hb, Blk.below' h.R hb, h.bel.trans (hb.mono (by have := h.lt; omega))⟩
theorem Sx.alloc {w wr : World} {a q : List Int} (h : Sx w wr a q) (o : Obj) : Sx w (wr.alloc o) a q :=
  ⟨Blk.alloc h.A o, Blk.alloc h.P o, Blk.alloc h.R o, h.bel.alloc (by have := h.lt; omega) o⟩
theorem Sx.setP {w wr : World} {a q : List Int} (h : Sx w wr a q) (q2 : List Int) : Sx w (wr.setRow (w.heap.size + 1) (agi q2)) a q2 :=
  ⟨Blk.rowFar h.A (by omega), IB.setRow h.P q2, Blk.rowFar h.R (by omega), below_setRow h.bel (by omega) _⟩
theorem Sx.drew {w wr : World} {a q : List Int} (h : Sx w wr a q) : Sx w wr.drew a q := ⟨h.A, h.P, h.R, h.bel.drew⟩
theorem Sx.start (w : World) (a q : List Int) : Sx w (((w.alloc (.cells (agi a) 23)).alloc (.cells (agi q) 42)).alloc (.cells (agi Z8) 42)) a q := by
  have h1 := IB.new w 23 a
  have h2 := IB.new (w.alloc (.cells (agi a) 23)) 42 q
  have h3 := IB.new ((w.alloc (.cells (agi a) 23)).alloc (.cells (agi q) 42)) 42 Z8
  simp only [World.size_alloc] at h2 h3
  exact ⟨Blk.alloc (Blk.alloc h1 _) _, Blk.alloc h2 _, h3, ((((Below.refl _ _).alloc (Nat.le_refl _) _).alloc (by simp) _).alloc (by simp; omega) _)⟩
theorem Sx.grown {w wr wr' : World} {a q xs : List Int} {A : Option Addr} {c : Nat} (h : Sx w wr a q) (hO : Own wr (w.heap.size + 3) A c xs) (hG : wr.grownBy wr' (A.map (·.block))) : Sx w wr' a q :=
  ⟨Blk.grownA h.A hG (hO.ne_ (by omega)), Blk.grownA h.P hG (hO.ne_ (by omega)), Blk.grownA h.R hG (hO.ne_ (by omega)),
    below_grown h.bel (hO.more (by omega)) hG (by have := h.lt; omega)⟩

theorem list8 {q : List Int} (h : q.length = 8) : ∃ q0 q1 q2 q3 q4 q5 q6 q7, q = [q0, q1, q2, q3, q4, q5, q6, q7] := by
  match q, h with
  | [a, b, c, d, e, f, g, i], _ => exact ⟨a, b, c, d, e, f, g, i, rfl⟩
theorem IB.set8 {w : World} {g : Nat} {t : TypeId} (h : IB w g t Z8) (q0 q1 q2 q3 q4 q5 q6 q7 : Int) :
    IB ((((((((w.setCell ⟨g, 0, none⟩ (.int .i64 q0)).setCell ⟨g, 1, none⟩ (.int .i64 q1)).setCell ⟨g, 2, none⟩ (.int .i64 q2)).setCell ⟨g, 3, none⟩ (.int .i64 q3)).setCell ⟨g, 4, none⟩ (.int .i64 q4)).setCell ⟨g, 5, none⟩ (.int .i64 q5)).setCell ⟨g, 6, none⟩ (.int .i64 q6)).setCell ⟨g, 7, none⟩ (.int .i64 q7)) g t [q0, q1, q2, q3, q4, q5, q6, q7] :=
  (((((((h.set_ 0 q0).set_ 1 q1).set_ 2 q2).set_ 3 q3).set_ 4 q4).set_ 5 q5).set_ 6 q6).set_ 7 q7
theorem below_set8 {w0 w : World} {B g : Nat} (h : Below B w0 w) (hg : B ≤ g) (q0 q1 q2 q3 q4 q5 q6 q7 : Int) :
    Below B w0 ((((((((w.setCell ⟨g, 0, none⟩ (.int .i64 q0)).setCell ⟨g, 1, none⟩ (.int .i64 q1)).setCell ⟨g, 2, none⟩ (.int .i64 q2)).setCell ⟨g, 3, none⟩ (.int .i64 q3)).setCell ⟨g, 4, none⟩ (.int .i64 q4)).setCell ⟨g, 5, none⟩ (.int .i64 q5)).setCell ⟨g, 6, none⟩ (.int .i64 q6)).setCell ⟨g, 7, none⟩ (.int .i64 q7)) :=
  (((((((h.setCell (p := ⟨g, 0, none⟩) hg _).setCell (p := ⟨g, 1, none⟩) hg _).setCell (p := ⟨g, 2, none⟩) hg _).setCell (p := ⟨g, 3, none⟩) hg _).setCell (p := ⟨g, 4, none⟩) hg _).setCell (p := ⟨g, 5, none⟩) hg _).setCell (p := ⟨g, 6, none⟩) hg _).setCell (p := ⟨g, 7, none⟩) hg _
theorem Own.set8 {w : World} {base c g : Nat} {A : Option Addr} {xs : List Int} (h : Own w base A c xs) (hg : g < base) (q0 q1 q2 q3 q4 q5 q6 q7 : Int) :
    Own ((((((((w.setCell ⟨g, 0, none⟩ (.int .i64 q0)).setCell ⟨g, 1, none⟩ (.int .i64 q1)).setCell ⟨g, 2, none⟩ (.int .i64 q2)).setCell ⟨g, 3, none⟩ (.int .i64 q3)).setCell ⟨g, 4, none⟩ (.int .i64 q4)).setCell ⟨g, 5, none⟩ (.int .i64 q5)).setCell ⟨g, 6, none⟩ (.int .i64 q6)).setCell ⟨g, 7, none⟩ (.int .i64 q7)) base A c xs :=
  (((((((h.setC hg 0 _).setC hg 1 _).setC hg 2 _).setC hg 3 _).setC hg 4 _).setC hg 5 _).setC hg 6 _).setC hg 7 _

set_option maxHeartbeats 4000000 in
theorem synthMake_any (a p l : List Int) (A0 : Option Addr) (c0 n : Nat) (w : World) (ha : a.length = 9) (hp : p.length = 8) (hr : Rs w w.heap.size A0 l) (hn : l.length = n) (hl : n ≤ 17592186044000) :
    Calls Try.prog 91 #[.agg (agi a), .agg (agi p), .slice A0 n c0] w (NewSP w (if goodF a p l then makeN a p l n else []) (if goodF a p l then newL p (makeN a p l n) else Z8) (errOf (goodF a p l))) := by
  have hR := results_mid3 (fn := Try.f91) (p := 6) (q := 7) (r := 8) (ty := 42) rfl
  have S0 := Sx.start w a p
  have R0 := hr.below S0.bel
  rw [z8_eq] at S0
  rw [z8_eq] at R0
  have S0 := hid S0
  have R0 := hid R0
  have HA := hid ha
  have HP := hid hp
  have HN := hid hn
  have HR := hid hr
  have KG := hid (fun (W : World) (hW : Rs W W.heap.size A0 l) => synthgood_any a p l A0 c0 n 0 W ha hp hW hn (by omega))
  clear ha hp hn hr
  obtain ⟨Y, hY⟩ : ∃ Y, Y = (if goodF a p l then makeN a p l n else []) := ⟨_, rfl⟩
  obtain ⟨Z, hZ⟩ : ∃ Z, Z = (if goodF a p l then newL p (makeN a p l n) else Z8) := ⟨_, rfl⟩
  rw [← hY, ← hZ]
  have HYY := hid hY
  have HZZ := hid hZ
  clear hY hZ
  go_enter Try.func91, Try.ntmps91
  go_wp2_with (first
    | (refine wpList_loadI rfl 23 (.tmp 3) rfl _ 23 a 9 _ rfl S0.out.A Try.underlying23 rfl size9 HA.out ?_)
    | (refine wpList_loadI rfl 42 (.tmp 4) rfl _ 42 p 8 _ rfl S0.out.P Try.underlying42 rfl size8 HP.out ?_))
  refine (KG.out _ (R0.out.more (by simp; omega))).mono ?_
  rintro e w1 ⟨rfl, hB⟩
  have S1 := hid (S0.out.below hB)
  clear hB S0 R0 KG
  by_cases hg : goodF a p l = true
  · have HG := hid hg
    rw [hg]
    have y1 := HYY.out
    have z1 := HZZ.out
    rw [if_pos hg] at y1 z1
    have HY1 := hid y1
    have HZ1 := hid z1
    clear y1 z1
    obtain ⟨ga, gz, gp, gl⟩ : okP a = true ∧ a.getD 0 0 = 4096 ∧ all16 p = true ∧ all16 l = true := by simpa [goodF] using hg
    have GA := hid ga
    have GP := hid gp
    have GL := hid gl
    clear hg ga gz gp gl
    go_wp2
    go_loopw [9, 21] (fun ov iv wr => ∃ (k : Nat) (A : Option Addr) (c : Nat) (q ys : List Int), k ≤ n ∧ iv = .int .i64 k ∧ ov = .slice A k c ∧ Hid (ys = makeN a p l k) ∧ Hid (q = newL p (makeN a p l k)) ∧ Hid (Own wr (w.heap.size + 3) A c ys) ∧ Hid (Sx w wr a q)) (fun _ iv _ => n - (intOf iv).toNat)
    case atStart => exact ⟨0, none, 0, p, [], by omega, rfl, rfl, hid rfl, hid rfl, hid Own.nil, S1⟩
    case round =>
      clear S1
      obtain ⟨k, A, c, q, ys, hk, rfl, rfl, HY, HQ, HO, HS⟩ := hrel
      have HQL := hid (show q.length = 8 by rw [HQ.out]; exact newL_len _ _ HP.out)
      by_cases hlt : k < n
      · have q16 := hid (show all16 q = true by rw [HQ.out]; exact newL_all _ _ GP.out (makeN_all _ _ _ _))
        obtain ⟨ad, rfl, hadb, c1⟩ := (HR.out.below HS.out.bel).at_ (k := k) (by rw [HN.out]; exact hlt)
        have xb := all16_at GL.out k
        have YN := hid (show ys ++ [s16 (l.getD k 0 - guessL a q)] = makeN a p l (k + 1) by rw [makeN, ← HY.out, HQ.out, HY.out])
        obtain ⟨x, hx⟩ : ∃ x, x = l.getD k 0 := ⟨_, rfl⟩
        rw [← hx] at c1 xb YN
        have gb := guess_bound GA.out q16.out
        have K1 := hid (fun W => synthguess_any a q W HA.out HQL.out GA.out q16.out)
        generalize guessL a q = g at *
        obtain ⟨x1, x2⟩ := xb
        obtain ⟨g1, g2⟩ := gb
        have hw1 : IntKind.i64.wrap (x - g) = x - g := by rw [IntKind.wrap_i64]; omega
        obtain ⟨y, hy⟩ : ∃ y, y = s16 (x - g) := ⟨_, rfl⟩
        rw [← hy] at YN
        have KS := hid (fun W => synthsat_any (x - g) W)
        rw [← hy] at KS
        have QN := hid (show pushL q y = newL p (makeN a p l (k + 1)) by rw [← YN.out, HY.out, newL_snoc, HQ.out])
        have LP := hid (pushL_len HQL.out y)
        have HX := hid hx
        have YL := hid (show ys.length = k by rw [HY.out, makeN_len])
        clear hx hy
        go_wp2_with (first
          | (refine wpList_loadI rfl 23 (.tmp 3) rfl _ 23 a 9 _ rfl HS.out.A Try.underlying23 rfl size9 HA.out ?_)
          | (refine wpList_loadI rfl 42 (.tmp 4) rfl _ 42 q 8 _ rfl HS.out.P Try.underlying42 rfl size8 HQL.out ?_))
        refine (K1.out _).mono ?_
        rintro e w2 ⟨rfl, hB⟩
        have S2 := hid (HS.out.below hB)
        have O2 := hid (HO.out.below hB)
        clear hB HS HO c1
        go_wp2_with (first
          | (go_at_call 113; refine (KS.out _).mono ?_; rintro e w' ⟨rfl, rfl⟩)
          | (refine wpList_loadI rfl 42 (.tmp 4) rfl _ 42 q 8 _ rfl S2.out.P Try.underlying42 rfl size8 HQL.out ?_))
        refine (synthpush_any q y _ HQL.out).mono ?_
        rintro e w3 ⟨rfl, hB⟩
        have S3 := hid (S2.out.below hB)
        have O3 := hid (O2.out.below hB)
        clear hB S2 O2
        go_wp2_with (first
          | (refine wpList_storeI rfl 42 (.tmp 4) (.tmp 33) rfl _ 42 q (pushL q y) 8 rfl rfl S3.out.P size8 HQL.out LP.out ?_
             obtain ⟨w4, hw4⟩ : ∃ w4, w4 = w3.setRow (w.heap.size + 1) (agi (pushL q y)) := ⟨_, rfl⟩
             rw [← hw4]
             have S4 := hid (show Sx w w4 a (pushL q y) by rw [hw4]; exact S3.out.setP _)
             have O4 := hid (show Own w4 (w.heap.size + 3) A c ys by rw [hw4]; exact O3.out.setRow (by omega) _)
             clear hw4)
          | (at_builtin; refine wpList_pushN rfl (.tmp 34) (.tmp 36) rfl (w.heap.size + 3) A c k ys rfl YL.out (O4.out.alloc _) ⟨w4.heap.size, 0, none⟩ y rfl (cell_new w4 _ _) (by omega) (Nat.le_trans S4.out.lt (by simp)) ?_; intro A2 c2 w5 hO hG hA; have O5 := hid hO; have G5 := hid hG; clear hO hG hA))
        have S5 := hid ((S4.out.alloc _).grown (O4.out.alloc _) G5.out)
        go_wp2
        go_roundw
        case rel => exact ⟨k + 1, A2, c2, _, _, by omega, by go_num, rfl, YN, QN, O5, S5⟩
        case measure => simp [intOf] <;> omega
      · obtain rfl : k = n := by omega
        obtain ⟨q0, q1, q2, q3, q4, q5, q6, q7, rfl⟩ := list8 HQL.out
        have c0 : wr.cell? ⟨w.heap.size + 1, 0, none⟩ = some (.int .i64 q0) := IB.cell HS.out.P 0 (by simp)
        have c1 : wr.cell? ⟨w.heap.size + 1, 1, none⟩ = some (.int .i64 q1) := IB.cell HS.out.P 1 (by simp)
        have c2 : wr.cell? ⟨w.heap.size + 1, 2, none⟩ = some (.int .i64 q2) := IB.cell HS.out.P 2 (by simp)
        have c3 : wr.cell? ⟨w.heap.size + 1, 3, none⟩ = some (.int .i64 q3) := IB.cell HS.out.P 3 (by simp)
        have c4 : wr.cell? ⟨w.heap.size + 1, 4, none⟩ = some (.int .i64 q4) := IB.cell HS.out.P 4 (by simp)
        have c5 : wr.cell? ⟨w.heap.size + 1, 5, none⟩ = some (.int .i64 q5) := IB.cell HS.out.P 5 (by simp)
        have c6 : wr.cell? ⟨w.heap.size + 1, 6, none⟩ = some (.int .i64 q6) := IB.cell HS.out.P 6 (by simp)
        have c7 : wr.cell? ⟨w.heap.size + 1, 7, none⟩ = some (.int .i64 q7) := IB.cell HS.out.P 7 (by simp)
        have r0 : wr.cell? ⟨w.heap.size + 1 + 1, 0, none⟩ = some (.int .i64 0) := IB.cell HS.out.R 0 (by decide)
        have r1 : wr.cell? ⟨w.heap.size + 1 + 1, 1, none⟩ = some (.int .i64 0) := IB.cell HS.out.R 1 (by decide)
        have r2 : wr.cell? ⟨w.heap.size + 1 + 1, 2, none⟩ = some (.int .i64 0) := IB.cell HS.out.R 2 (by decide)
        have r3 : wr.cell? ⟨w.heap.size + 1 + 1, 3, none⟩ = some (.int .i64 0) := IB.cell HS.out.R 3 (by decide)
        have r4 : wr.cell? ⟨w.heap.size + 1 + 1, 4, none⟩ = some (.int .i64 0) := IB.cell HS.out.R 4 (by decide)
        have r5 : wr.cell? ⟨w.heap.size + 1 + 1, 5, none⟩ = some (.int .i64 0) := IB.cell HS.out.R 5 (by decide)
        have r6 : wr.cell? ⟨w.heap.size + 1 + 1, 6, none⟩ = some (.int .i64 0) := IB.cell HS.out.R 6 (by decide)
        have r7 : wr.cell? ⟨w.heap.size + 1 + 1, 7, none⟩ = some (.int .i64 0) := IB.cell HS.out.R 7 (by decide)
        have f0 : wr.frozen? ⟨w.heap.size + 1 + 1, 0, none⟩ = false := Blk.frozen HS.out.R 0
        have f1 : wr.frozen? ⟨w.heap.size + 1 + 1, 1, none⟩ = false := Blk.frozen HS.out.R 1
        have f2 : wr.frozen? ⟨w.heap.size + 1 + 1, 2, none⟩ = false := Blk.frozen HS.out.R 2
        have f3 : wr.frozen? ⟨w.heap.size + 1 + 1, 3, none⟩ = false := Blk.frozen HS.out.R 3
        have f4 : wr.frozen? ⟨w.heap.size + 1 + 1, 4, none⟩ = false := Blk.frozen HS.out.R 4
        have f5 : wr.frozen? ⟨w.heap.size + 1 + 1, 5, none⟩ = false := Blk.frozen HS.out.R 5
        have f6 : wr.frozen? ⟨w.heap.size + 1 + 1, 6, none⟩ = false := Blk.frozen HS.out.R 6
        have f7 : wr.frozen? ⟨w.heap.size + 1 + 1, 7, none⟩ = false := Blk.frozen HS.out.R 7
        have IR := hid (Blk.drew (IB.set8 HS.out.R q0 q1 q2 q3 q4 q5 q6 q7))
        have OR := hid ((HO.out.set8 (g := w.heap.size + 2) (by omega) q0 q1 q2 q3 q4 q5 q6 q7).drew.more (base' := w.heap.size) (by omega))
        have BR := hid (below_set8 HS.out.bel (g := w.heap.size + 2) (by omega) q0 q1 q2 q3 q4 q5 q6 q7).drew
        have FY := hid (show Y = ys by rw [HY1.out, HY.out])
        have FZ := hid (show Z = [q0, q1, q2, q3, q4, q5, q6, q7] by rw [HZ1.out, HQ.out])
        have YL := hid (show ys.length = k by rw [HY.out, makeN_len])
        go_wp2
        go_region
        clear c0 c1 c2 c3 c4 c5 c6 c7 r0 r1 r2 r3 r4 r5 r6 r7 f0 f1 f2 f3 f4 f5 f6 f7
        simp only [Exit.then]
        go_wp2
        refine bodyPost_ret (v := _) (hR _ _ _ 42 [q0, q1, q2, q3, q4, q5, q6, q7] _ 8 rfl IR.out Try.underlying42 rfl size8 rfl) rfl ?_
        exact ⟨A, c, by rw [FY.out, FZ.out, YL.out, HG.out]; rfl, by rw [FY.out]; exact OR.out, BR.out⟩
  · have hb : goodF a p l = false := by simpa using hg
    rw [hb]
    have hRow := hid (S1.out.R)
    go_wp2_with (refine wpList_storeI rfl 42 (.tmp 7) (.tmp 18) rfl _ 42 Z8 Z8 8 rfl rfl S1.out.R size8 rfl rfl ?_)
    refine bodyPost_ret (v := _) (hR _ _ _ 42 Z8 _ 8 rfl (IB.setRow S1.out.R Z8) Try.underlying42 rfl size8 rfl) rfl ?_
    have y1 := HYY.out
    have z1 := HZZ.out
    rw [if_neg hg] at y1 z1
    subst y1
    subst z1
    exact ⟨none, 0, by rw [hb]; rfl, Own.nil, below_setRow S1.out.bel (by omega) _⟩
end Go.Proofs.Ytcfmipobgljbeaa

/- Package coder's play: excitation becomes samples. -/
namespace Go.Proofs.Ytcfmipobgljbeaa
set_option linter.unusedVariables false
set_option linter.unusedSimpArgs false
set_option maxRecDepth 100000
open Go.RowKit

section
variable {w w' wr : World} {g : Nat} {m : Mm}
theorem MB.thereP (h : MB w g m) (k : m.ok) : w.there g 8 8 := fun j hj => by
  have h1 := h.there k (8 + j) (by omega)
  rwa [Nat.zero_add] at h1
theorem MB.set_p (h : MB w g m) (k : m.ok) (p : List Int) (hp : p.length = 8) : MB (w.setCells g 8 (ints p)) g { m with p := p } := by
  have h0 : Blk w g 44 (ints m.r ++ (ints m.p ++ (ints m.e ++ m.tl))).toArray := by
    have e1 : m.ag = (ints m.r ++ (ints m.p ++ (ints m.e ++ m.tl))).toArray := rfl
    rw [← e1]; exact h
  have h1 := blk_setCells (ints p) (ints m.p) _ _ w h0 (by rw [ints_len, ints_len, hp, k.p])
  have hl : (ints m.r).length = 8 := by rw [ints_len, k.r]
  rw [hl] at h1
  exact h1
theorem results_mem2 {fn : Func} {p q : Tmp} (h : fn.results = #[.cell p 44, .tmp q]) (tmps : Array Value) (w : World) (g : Nat) (m : Mm)
    (hp : tmps.getD p undef = .pointer (some ⟨g, 0, none⟩)) (hg : MB w g m) (k : m.ok) :
    (results fn tmps).run Try.prog w = .ok (.tuple #[.agg m.ag, tmps.getD q undef]) w := by
  have hp' : tmps[p]?.getD undef = .pointer (some ⟨g, 0, none⟩) := by simpa using hp
  have hr := run_loadVar_row (P := Try.prog) w g 44 44 m.ag (0, 0) _ hg Try.underlying44 rfl (by rw [sizeM, m.size k])
  simp [results, h, hp', asAddr, hr]
theorem newzero (w : World) : MB (w.alloc (.cells Try.zeroCells44 44)) w.heap.size zeroM := by rw [zeroM_ag]; exact MB.new w zeroM
theorem Ms.setA {mm : Mm} (s : Ms w wr m) : Ms w (wr.setRow w.heap.size mm.ag) mm :=
  ⟨s.A.setRow mm, Blk.rowFar s.R (by omega), below_setRow s.bel (Nat.le_refl _) _⟩
end
/-- The boxes of play: the memory, the predictor, the answer's. -/
structure Py (w wr : World) (m : Mm) (a : List Int) : Prop where
  A : MB wr w.heap.size m
  F : IB wr (w.heap.size + 1) 23 a
  R : MB wr (w.heap.size + 2) zeroM
  bel : Below w.heap.size w wr
theorem Py.start (w : World) (m : Mm) (a : List Int) : Py w (((w.alloc (.cells m.ag 44)).alloc (.cells (agi a) 23)).alloc (.cells Try.zeroCells44 44)) m a := by
  have h1 := MB.new w m
  have h2 := IB.new (w.alloc (.cells m.ag 44)) 23 a
  have h3 := newzero ((w.alloc (.cells m.ag 44)).alloc (.cells (agi a) 23))
  simp only [World.size_alloc] at h2 h3
  exact ⟨Blk.alloc (Blk.alloc h1 _) _, Blk.alloc h2 _, h3, ((((Below.refl _ _).alloc (Nat.le_refl _) _).alloc (by simp) _).alloc (by simp; omega) _)⟩
theorem Py.below {w wr w' : World} {m : Mm} {a : List Int} (s : Py w wr m a) (hb : Below wr.heap.size wr w') : Py w w' m a :=
  ⟨Blk.below' s.A hb, Blk.below' s.F hb, Blk.below' s.R hb, s.bel.trans (hb.mono s.bel.size)⟩
theorem Py.lt {w wr : World} {m : Mm} {a : List Int} (s : Py w wr m a) : w.heap.size + 3 ≤ wr.heap.size := Blk.lt s.R
def PlayA (w : World) (mm : Mm) (ys : List Int) (e : Ending) (w' : World) : Prop := ∃ A c, e = .returned (.tuple #[.agg mm.ag, .slice A ys.length c]) ∧ Own w' w.heap.size A c ys ∧ Below w.heap.size w w'

set_option maxHeartbeats 4000000 in
theorem play_any (m : Mm) (k : m.ok) (a x : List Int) (A : Option Addr) (c n : Nat) (w : World) (ha : a.length = 9) (hr : Rs w w.heap.size A x) (hn : x.length = n) (hl : n ≤ 40) :
    Calls Try.prog 61 #[.agg m.ag, .agg (agi a), .slice A n c] w (PlayA w { m with p := playP a m.p x } (playY a m.p x)) := by
  have hR := results_mem2 (fn := Try.f61) (p := 6) (q := 7) rfl
  have S0 := hid (Py.start w m a)
  have K := hid k
  have HA := hid ha
  have QL := hid (playP_len (a := a) (x := x) k.p)
  have HX := hid ((hr.below S0.out.bel).more S0.out.bel.size)
  have KM := hid (fun W (hr : Rs W W.heap.size A x) => show Calls Try.prog 91 #[.agg (agi a), .agg (ints m.p).toArray, .slice A n c] W (NewSP W (playY a m.p x) (playP a m.p x) (errOf (goodF a m.p x))) from by
    have := synthMake_any a m.p x A c n W ha k.p hr hn (by omega)
    unfold playY playP
    rw [hn]
    exact this)
  have hi8 : (Try.prog.info? 42).map (·.size) = some (ints m.p).length := by rw [ints_len, k.p]; exact size8'
  have HI8 := hid hi8
  clear k ha hr hn hi8
  generalize hq : playP a m.p x = q at *
  generalize hy : playY a m.p x = y at *
  generalize errOf (goodF a m.p x) = er at *
  clear hq hy
  go_enter Try.func61, Try.ntmps61
  go_wp2_with (first
    | (refine wpList_loadI rfl 23 (.tmp 4) rfl _ 23 a 9 _ rfl S0.out.F Try.underlying23 rfl size9 HA.out ?_)
    | (refine wpList_load_mid rfl 42 (.tmp 13) rfl _ _ rfl (ints m.p) _ (S0.out.A.P K.out) Try.underlying42 rfl HI8.out ?_))
  refine (KM.out _ HX.out).mono ?_
  rintro e w1 ⟨A1, c1, rfl, hO, hB⟩
  have S1 := hid (S0.out.below hB)
  have LT0 := hid S0.out.lt
  have O1 := hid (hO.more (base' := w.heap.size + 3) LT0.out)
  clear hO hB S0 HX KM
  have K2 := hid (show ({ m with p := q } : Mm).ok from ⟨K.out.r, QL.out, K.out.e⟩)
  have B2 := hid (below_stored w1 (.cells (agi Z8) 42) (agi q))
  obtain ⟨w2, hw2⟩ : ∃ w2, w2 = (w1.alloc (.cells (agi Z8) 42)).setRow w1.heap.size (agi q) := ⟨_, rfl⟩
  rw [← hw2] at B2
  have S2 := hid (S1.out.below B2.out)
  have Q2 := hid (show IB w2 w1.heap.size 42 q by rw [hw2]; exact IB.stored w1 42 Z8 q)
  have O2 := hid (O1.out.below B2.out)
  rw [z8_eq] at hw2
  have HW2 := hid hw2
  clear hw2
  obtain ⟨w3, hw3⟩ : ∃ w3, w3 = w2.setCells w.heap.size 8 (ints q) := ⟨_, rfl⟩
  have S3 := hid (show Py w w3 { m with p := q } a by
    rw [hw3]
    exact ⟨S2.out.A.set_p K.out q QL.out, blk_sc (by omega) _ _ _ S2.out.F, blk_sc (by omega) _ _ _ S2.out.R, below_sc (Nat.le_refl _) _ _ _ S2.out.bel⟩)
  have O3 := hid (show Own w3 (w.heap.size + 3) A1 c1 y by rw [hw3]; exact Own.setCs (by omega) _ _ _ O2.out)
  have HW3 := hid hw3
  clear hw3
  have hRow := hid (MB.setRow S3.out.R { m with p := q })
  have FIN := hid (below_setRow S3.out.bel (g := w.heap.size + 2) (by omega) ({ m with p := q } : Mm).ag)
  have OF := hid ((O3.out.setRow (g := w.heap.size + 2) (by omega) ({ m with p := q } : Mm).ag).more (base' := w.heap.size) (by omega))
  have SZ := hid (show (Try.prog.info? 42).map (·.size) = some (agi q).size from by rw [agi_size, QL.out]; exact size8')
  have TH := hid (show w2.there w.heap.size 8 (agi q).size from by rw [agi_size, QL.out]; exact S2.out.A.thereP K.out)
  go_wp2_with (first
    | (refine wpList_storeI rfl 42 (.tmp 9) (.tmp 18) rfl _ 42 Z8 q 8 rfl rfl (IB.new w1 42 Z8) size8' rfl QL.out ?_; rw [← HW2.out])
    | (refine wpList_loadI rfl 42 (.tmp 9) rfl _ 42 q 8 _ rfl Q2.out Try.underlying42 rfl size8' QL.out ?_)
    | (refine wpList_store_mid rfl 42 (.tmp 21) (.tmp 20) rfl w.heap.size 8 (agi q) rfl rfl TH.out SZ.out (agi_one _) ?_; rw [show (agi q).toList = ints q from rfl, ← HW3.out])
    | (refine wpList_loadM rfl (.tmp 3) rfl _ { m with p := q } rfl S3.out.A K2.out ?_)
    | (refine wpList_storeM rfl (.tmp 6) (.tmp 22) rfl _ zeroM { m with p := q } rfl rfl S3.out.R zeroM_ok K2.out ?_))
  refine bodyPost_ret (v := _) (hR _ _ _ { m with p := q } rfl hRow.out K2.out) rfl ?_
  exact ⟨A1, c1, rfl, OF.out, FIN.out⟩
end Go.Proofs.Ytcfmipobgljbeaa

/- The walk of Direct, the program's. -/
namespace Go.Proofs.Ytcfmipobgljbeaa
set_option linter.unusedVariables false
set_option linter.unusedSimpArgs false
set_option maxRecDepth 100000
open Go.RowKit

theorem map_range_get {n j : Nat} (f : Nat → Int) (h : j < n) : ((List.range n).map f).getD j 0 = f j := by
  rw [List.getD_eq_getElem?_getD, List.getElem?_map, List.getElem?_range h]
  rfl

def Dirs (w : World) (a : List Int) (e : Ending) (w' : World) : Prop := e = .returned (.tuple #[.agg (agi (dirL a)), .int .i64 (errOf (steadyB a))]) ∧ Below w.heap.size w w'
theorem dir_bad {w w' : World} {a : List Int} (h : steadyB a = false) (hB : Below w.heap.size w w') : Dirs w a (.returned (.tuple #[.agg (agi Z9), .int .i64 2])) w' := by
  refine ⟨?_, hB⟩
  unfold dirL errOf
  rw [h]
  rfl
theorem dir_good {w w' : World} {a ys : List Int} (h : steadyB a = true) (hl : ys.length = 9) (hy : ∀ j, j < 9 → ys.getD j 0 = ((dirN a 8).getD j 0 + 2048) / 4096) (hB : Below w.heap.size w w') : Dirs w a (.returned (.tuple #[.agg (agi ys), .int .i64 0])) w' := by
  refine ⟨?_, hB⟩
  have e : ys = dirL a := by
    apply list_ext (by rw [hl, dirL_len])
    intro j hj
    rw [hy j (by omega)]
    unfold dirL
    rw [if_pos h, map_range_get _ (show j < 9 by omega)]
  unfold errOf
  rw [h, e]
  rfl
/-- The predictor's first number. -/
def P0 : List Int := [16777216, 0, 0, 0, 0, 0, 0, 0, 0]
theorem p0_eq : agi P0 = #[.int .i64 16777216, .int .i64 0, .int .i64 0, .int .i64 0, .int .i64 0, .int .i64 0, .int .i64 0, .int .i64 0, .int .i64 0] := rfl
theorem dirN_zero (k : List Int) (j : Nat) : (dirN k 0).getD j 0 = P0.getD j 0 := by
  match j with
  | 0 => rfl
  | 1 => rfl
  | 2 => rfl
  | 3 => rfl
  | 4 => rfl
  | 5 => rfl
  | 6 => rfl
  | 7 => rfl
  | 8 => rfl
  | j + 9 => rfl
theorem dirN_get (k : List Int) (m i : Nat) (h0 : 1 ≤ i) (h : i ≤ m + 1) : (dirN k (m + 1)).getD i 0 = (dirN k m).getD i 0 + k.getD m 0 * (dirN k m).getD (m + 1 - i) 0 / 32768 := by
  rw [dirN, growL_get _ _ _ _ h, if_neg (by omega)]
theorem dirN_head (k : List Int) (m : Nat) : (dirN k (m + 1)).getD 0 0 = (dirN k m).getD 0 0 := by
  rw [dirN, growL_get _ _ _ _ (by omega), if_pos rfl]
theorem dirN_over (k : List Int) (m i : Nat) (h : m < i) : (dirN k m).getD i 0 = 0 := by
  rw [List.getD_eq_getElem?_getD, List.getElem?_eq_none (by rw [dirN_len]; omega)]; rfl
theorem dirN_bd {k : List Int} (h : ∀ i, -32768 < k.getD i 0 ∧ k.getD i 0 < 32768) {m : Nat} (hm : m ≤ 8) (i : Nat) : -4294967296 ≤ (dirN k m).getD i 0 ∧ (dirN k m).getD i 0 ≤ 4294967296 := by
  have h1 := dirN_within (k := k) (fun i => ⟨by have := h i; omega, by have := h i; omega⟩) m i
  have h2 : (2 : Nat) ^ m ≤ 2 ^ 8 := Nat.pow_le_pow_right (by decide) hm
  have h3 : ((2 ^ m : Nat) : Int) = 2 ^ m := by simp
  omega

/-- Ahead of the round i of the inner loop: the numbers below i are the next predictor's. -/
def DirMid (a ys : List Int) (m i : Nat) : Prop := ys.length = 9 ∧ ∀ j, ys.getD j 0 = if j < i then (dirN a (m + 1)).getD j 0 else (dirN a m).getD j 0
theorem DirMid.start {a ys : List Int} {m : Nat} (hl : ys.length = 9) (h : ∀ j, ys.getD j 0 = (dirN a m).getD j 0) : DirMid a ys m 1 := ⟨hl, fun j => by
  rw [h j]
  split
  · obtain rfl : j = 0 := by omega
    exact (dirN_head a m).symm
  · rfl⟩
theorem DirMid.step {a ys : List Int} {m i : Nat} (h : DirMid a ys m i) (h0 : 1 ≤ i) (hi : i ≤ m + 1) (h9 : i < 9) :
    DirMid a (ys.set i ((dirN a m).getD i 0 + a.getD m 0 * (dirN a m).getD (m + 1 - i) 0 / 32768)) m (i + 1) := by
  refine ⟨by simpa using h.1, fun j => ?_⟩
  by_cases he : i = j
  · subst he
    rw [get_set_same _ _ _ (by rw [h.1]; exact h9), if_pos (by omega), dirN_get a m i h0 hi]
  · rw [get_set_other _ _ he, h.2 j]
    by_cases hj : j < i
    · rw [if_pos hj, if_pos (by omega)]
    · rw [if_neg hj, if_neg (by omega)]
theorem DirMid.fin {a ys : List Int} {m : Nat} (h : DirMid a ys m (m + 2)) : ∀ j, ys.getD j 0 = (dirN a (m + 1)).getD j 0 := fun j => by
  rw [h.2 j]
  split
  · rfl
  · rw [dirN_over a m j (by omega), dirN_over a (m + 1) j (by omega)]

set_option maxHeartbeats 8000000 in
theorem direct_any (a : List Int) (w : World) (ha : a.length = 8) : Calls Try.prog 58 #[.agg (agi a)] w (Dirs w a) := by
  have I0 := hid (Bx2.start 42 w a)
  have hR := results_row2 (fn := Try.f58) (p := 2) (q := 3) (ty := 23) rfl
  have HA := hid ha
  have HIX := hid (fun (k : Nat) (hk : k < 8) (w : World) => run_index_agi Try.underlying42 a ha k hk w)
  have O1 := IB.new ((w.alloc (.cells (agi a) 42)).alloc (.cells (agi Z9) 23)) 23 Z9
  have I1 := hid ((I0.out.below ((Below.refl _ _).alloc (Nat.le_refl _) (.cells (agi Z9) 23))))
  simp only [World.size_alloc] at O1
  have O2 := hid (IB.setRow O1 P0)
  have I2 := hid (show Bx2 42 w ((((w.alloc (.cells (agi a) 42)).alloc (.cells (agi Z9) 23)).alloc (.cells (agi Z9) 23)).setRow (w.heap.size + 1 + 1) (agi P0)) a Z9 from
    ⟨Blk.rowFar I1.out.A (by omega), Blk.rowFar I1.out.R (by omega), below_setRow I1.out.bel (by omega) _⟩)
  have O1 := hid O1
  clear ha I0
  go_enter Try.func58, Try.ntmps58
  go_wp2_with (first
    | (refine wpList_storeI rfl 23 (.tmp 4) (.tmp 12) rfl _ 23 Z9 P0 9 rfl rfl O1.out size9 rfl rfl ?_)
    | (refine wpList_loadI rfl 42 (.tmp 1) rfl _ 42 a 8 _ rfl I2.out.A Try.underlying42 rfl size8 HA.out ?_))
  go_loop [14] (fun iv => ∃ k : Nat, k ≤ 8 ∧ iv = .int .i64 k ∧ Hid (allTo okR a k)) (fun iv => 8 - (intOf iv).toNat)
  case atStart => exact ⟨0, by omega, rfl, hid allTo.zero⟩
  case round =>
    obtain ⟨k, hk, rfl, HY⟩ := hrel
    by_cases hlt : k < 8
    · have hix := HIX.out k hlt
      obtain ⟨x, hx⟩ : ∃ x, x = a.getD k 0 := ⟨_, rfl⟩
      rw [← hx] at hix
      have HX := hid hx
      clear hx
      by_cases hbad : x ≤ -32768 ∨ 32768 ≤ x
      · have FIN := hid (dir_bad (a := a) (all_no (i := k) (by rw [HA.out]; exact hlt) (okR_no (by rw [← HX.out]; exact hbad))) (below_setRow I2.out.bel (g := w.heap.size + 1) (by omega) (agi Z9)))
        have hRow := hid (I2.out.R.setRow Z9)
        rcases hbad with b1 | b1
        · go_wp2_with (refine wpList_storeI rfl 23 (.tmp 2) (.tmp 23) rfl _ 23 Z9 Z9 9 rfl rfl I2.out.R size9 rfl rfl ?_)
          refine bodyPost_ret (v := _) (hR _ _ _ 23 Z9 _ 9 rfl hRow.out Try.underlying23 rfl size9 rfl) rfl ?_
          exact FIN.out
        · have b0 : ¬ x ≤ -32768 := by omega
          go_wp2_with (refine wpList_storeI rfl 23 (.tmp 2) (.tmp 23) rfl _ 23 Z9 Z9 9 rfl rfl I2.out.R size9 rfl rfl ?_)
          refine bodyPost_ret (v := _) (hR _ _ _ 23 Z9 _ 9 rfl hRow.out Try.underlying23 rfl size9 rfl) rfl ?_
          exact FIN.out
      · have b1 : -32768 < x := by omega
        have b2 : x < 32768 := by omega
        have HN := hid (HY.out.succ (by rw [← HX.out]; exact okR_yes b1 b2))
        clear hbad
        go_wp2
        go_round
        case rel => exact ⟨k + 1, by omega, by go_num, HN⟩
        case measure => simp [intOf] <;> omega
    · obtain rfl : k = 8 := by omega
      have sd : steadyB a = true := HY.out.all (by rw [HA.out]; exact Nat.le_refl _)
      have SD := hid sd
      have SA := hid (fun i => steadyB_at sd i)
      clear hlt sd
      go_wp2_with (refine wpList_loadI rfl 42 (.tmp 1) rfl _ 42 a 8 _ rfl I2.out.A Try.underlying42 rfl size8 HA.out ?_)
      go_loopw [26] (fun iv wr => ∃ (m : Nat) (ys : List Int), m ≤ 8 ∧ iv = .int .i64 m ∧ Hid (ys.length = 9 ∧ ∀ j, ys.getD j 0 = (dirN a m).getD j 0) ∧ Hid (Bx2 42 w wr a Z9) ∧ Hid (IB wr (w.heap.size + 1 + 1) 23 ys)) (fun iv _ => 8 - (intOf iv).toNat)
      case atStart => exact ⟨0, P0, by omega, rfl, hid ⟨rfl, fun j => (dirN_zero a j).symm⟩, I2, O2⟩
      case round =>
        clear I2 O2 O1 I1
        obtain ⟨m, ys, hm, rfl, HY, HI, HO⟩ := hrel
        obtain ⟨wo, rfl⟩ : ∃ wo : World, wo = wr := ⟨_, rfl⟩
        by_cases hlt : m < 8
        · have hix := HIX.out m hlt
          obtain ⟨q, hq⟩ : ∃ q, q = a.getD m 0 := ⟨_, rfl⟩
          rw [← hq] at hix
          have sq := SA.out m
          rw [← hq] at sq
          obtain ⟨q1, q2⟩ := sq
          have HQ := hid hq
          clear hq
          have NB := hid (IB.stored wo 23 Z9 ys)
          have OB := hid (Blk.stored (c2 := agi ys) HO.out (.cells (agi Z9) 23))
          have hne := Blk.lt HO.out
          have IB2 := hid (show Bx2 42 w ((wo.alloc (.cells (agi Z9) 23)).setRow wo.heap.size (agi ys)) a Z9 from
            ⟨Blk.stored HI.out.A _, Blk.stored HI.out.R _, HI.out.bel.trans ((below_stored wo _ _).mono (by have := HI.out.lt; omega))⟩)
          have MID := hid (DirMid.start HY.out.1 HY.out.2)
          rw [z9_eq] at NB OB IB2
          go_wp2_with (first
            | (refine wpList_loadI rfl 23 (.tmp 4) rfl _ 23 ys 9 _ rfl HO.out Try.underlying23 rfl size9 HY.out.1 ?_)
            | (refine wpList_storeI rfl 23 (.tmp 9) (.tmp 30) rfl _ 23 Z9 ys 9 rfl rfl (IB.new wo 23 Z9) size9 rfl HY.out.1 ?_))
          go_loopw [10] (fun jv wr2 => ∃ (i : Nat) (zs : List Int), 1 ≤ i ∧ i ≤ m + 2 ∧ jv = .int .i64 i ∧ Hid (DirMid a zs m i) ∧ Hid (Bx2 42 w wr2 a Z9) ∧ Hid (IB wr2 (w.heap.size + 1 + 1) 23 zs) ∧ Hid (IB wr2 wo.heap.size 23 ys)) (fun jv _ => m + 2 - (intOf jv).toNat)
          case atStart => exact ⟨1, ys, by omega, by omega, rfl, MID, IB2, OB, NB⟩
          case round =>
            clear NB OB IB2 MID
            obtain ⟨i, zs, hi1, hi2, rfl, HM, HI2, HO2, HW2⟩ := hrel
            by_cases hle : i ≤ m + 1
            · obtain ⟨d, hd⟩ : ∃ d : Nat, m + 1 = i + d := ⟨m + 1 - i, by omega⟩
              have hsub : (m : Int) + 1 - (i : Int) = (d : Nat) := by omega
              have c1 := HW2.out.cell i (by rw [HY.out.1]; omega)
              have c2 := HW2.out.cell d (by rw [HY.out.1]; omega)
              have c3 := HO2.out.cell i (by rw [HM.out.1]; omega)
              have f3 := Blk.frozen HO2.out i
              rw [HY.out.2] at c1 c2
              have bx := dirN_bd SA.out hm i
              have by' := dirN_bd SA.out hm d
              have ST := hid (HM.out.step hi1 hle (by omega))
              rw [← HQ.out, show m + 1 - i = d from by omega] at ST
              generalize (dirN a m).getD i 0 = x at *
              generalize (dirN a m).getD d 0 = y at *
              obtain ⟨bx1, bx2⟩ := bx
              obtain ⟨by1, by2⟩ := by'
              have pr := mul_bound (x := q) (X := 32768) (y := y) (Y := 4294967296) (by omega) (by omega) ⟨by omega, by omega⟩ ⟨by omega, by omega⟩
              have p1 : -140737488355328 ≤ q * y := by omega
              have p2 : q * y ≤ 140737488355328 := by omega
              have NI := hid (HI2.out.setCell (g := w.heap.size + 1 + 1) (by omega) i (.int .i64 (x + q * y / 32768))).drew
              have NO := hid (IB.set_ HO2.out i (x + q * y / 32768))
              have NW := hid (Blk.far HW2.out (p := ⟨w.heap.size + 1 + 1, i, none⟩) (by show wo.heap.size ≠ w.heap.size + 1 + 1; omega) (.int .i64 (x + q * y / 32768)))
              have hd9 : d < 9 := by omega
              have hi9 : i < 9 := by omega
              clear pr hd
              go_wp2
              go_region
              all_goals
                go_wp2
                go_roundw
                case rel => exact ⟨i + 1, _, by omega, by omega, by go_num, ST, NI, NO, NW⟩
                case measure => simp [intOf] <;> omega
            · obtain rfl : i = m + 2 := by omega
              have HF := hid (show zs.length = 9 ∧ ∀ j, zs.getD j 0 = (dirN a (m + 1)).getD j 0 from ⟨HM.out.1, HM.out.fin⟩)
              go_wp2
              go_roundw
              case rel => exact ⟨m + 1, zs, by omega, by go_num, HF, HI2, HO2⟩
              case measure => simp [intOf] <;> omega
        · obtain rfl : m = 8 := by omega
          have BD := hid (fun j => dirN_bd SA.out (show 8 ≤ 8 by omega) j)
          clear hlt
          go_wp2
          go_loopw [53] (fun iv wr => ∃ (k : Nat) (zs : List Int), k ≤ 9 ∧ iv = .int .i64 k ∧ Hid (zs.length = 9 ∧ (∀ j, j < k → zs.getD j 0 = ((dirN a 8).getD j 0 + 2048) / 4096) ∧ ∀ j, k ≤ j → zs.getD j 0 = (dirN a 8).getD j 0) ∧ Hid (Bx2 42 w wr a Z9) ∧ Hid (IB wr (w.heap.size + 1 + 1) 23 zs)) (fun iv _ => 9 - (intOf iv).toNat)
          case atStart => exact ⟨0, ys, by omega, rfl, hid ⟨HY.out.1, fun j h => by omega, fun j _ => HY.out.2 j⟩, HI, HO⟩
          case round =>
            clear HI HO HY
            obtain ⟨k, zs, hk, rfl, HY, HI, HO⟩ := hrel
            by_cases hlt : k < 9
            · have c3 := HO.out.cell k (by rw [HY.out.1]; exact hlt)
              have f3 := Blk.frozen HO.out k
              rw [HY.out.2.2 k (Nat.le_refl _)] at c3
              obtain ⟨b1, b2⟩ := BD.out k
              obtain ⟨x, hx⟩ : ∃ x, x = (dirN a 8).getD k 0 := ⟨_, rfl⟩
              rw [← hx] at c3 b1 b2
              have HX := hid hx
              clear hx
              have NEXT := hid (show Hid ((zs.set k ((x + 2048) / 4096)).length = 9 ∧ (∀ j, j < k + 1 → (zs.set k ((x + 2048) / 4096)).getD j 0 = ((dirN a 8).getD j 0 + 2048) / 4096) ∧ ∀ j, k + 1 ≤ j → (zs.set k ((x + 2048) / 4096)).getD j 0 = (dirN a 8).getD j 0) from by
                obtain ⟨q1, q3, q4⟩ := HY.out
                refine ⟨by simpa using q1, fun j hj => ?_, fun j hj => ?_⟩
                · by_cases he : k = j
                  · subst he
                    rw [get_set_same _ _ _ (by omega), HX.out]
                  · rw [get_set_other _ _ he]
                    exact q3 j (by omega)
                · rw [get_set_other _ _ (by omega)]
                  exact q4 j (by omega))
              have NI := hid (HI.out.setCell (g := w.heap.size + 1 + 1) (by omega) k (.int .i64 ((x + 2048) / 4096)))
              have NO := hid (IB.set_ HO.out k ((x + 2048) / 4096))
              go_wp2
              go_roundw
              case rel => exact ⟨k + 1, _, by omega, by go_num, NEXT.out, NI, NO⟩
              case measure => simp [intOf] <;> omega
            · obtain rfl : k = 9 := by omega
              have FIN := hid (dir_good SD.out HY.out.1 HY.out.2.1 (below_setRow HI.out.bel (g := w.heap.size + 1) (by omega) (agi zs)))
              have hRow := hid (HI.out.R.setRow zs)
              clear hlt
              go_wp2_with (first
                | (refine wpList_loadI rfl 23 (.tmp 4) rfl _ 23 zs 9 _ rfl HO.out Try.underlying23 rfl size9 HY.out.1 ?_)
                | (refine wpList_storeI rfl 23 (.tmp 2) (.tmp 64) rfl _ 23 Z9 zs 9 rfl rfl HI.out.R size9 rfl HY.out.1 ?_))
              refine bodyPost_ret (v := _) (hR _ _ _ 23 zs _ 9 rfl hRow.out Try.underlying23 rfl size9 HY.out.1) rfl ?_
              exact FIN.out
end Go.Proofs.Ytcfmipobgljbeaa

/- Package coder's Erase. -/
namespace Go.Proofs.Ytcfmipobgljbeaa
set_option linter.unusedVariables false
set_option linter.unusedSimpArgs false
set_option maxRecDepth 100000
open Go.RowKit

def msK (a : List Int) (m : Mm) : Nat → Mm
  | 0 => m
  | k + 1 => stM a (msK a m k) k
def ysK (a : List Int) (m : Mm) : Nat → List Int
  | 0 => []
  | k + 1 => ysK a m k ++ stY a (msK a m k) k
theorem msK_ok {a : List Int} {m : Mm} (k : m.ok) (n : Nat) : (msK a m n).ok := by
  induction n with
  | zero => exact k
  | succ n ih => exact stM_ok ih _ _
theorem msK_64 {a : List Int} {m : Mm} (h : W64 m.nums) (n : Nat) : W64 (msK a m n).nums := by
  induction n with
  | zero => exact h
  | succ n ih => exact stM_64 ih _ _
theorem ysK_len (a : List Int) (m : Mm) (n : Nat) : (ysK a m n).length ≤ 40 * n := by
  induction n with
  | zero => exact Nat.le_refl _
  | succ n ih =>
    have := stY_len a (msK a m n) n
    rw [ysK, List.length_append]
    omega
/-- The boxes, and the predictor's. -/
structure Ec (w wr : World) (m : Mm) (g : Nat) (a : List Int) : Prop where
  M : Ms w wr m
  F : IB wr g 23 a
  lt : w.heap.size + 2 ≤ g
section
variable {w wr w' : World} {m mm : Mm} {g : Nat} {a : List Int}
theorem Ec.below (s : Ec w wr m g a) (hb : Below wr.heap.size wr w') : Ec w w' m g a := ⟨s.M.below hb, Blk.below' s.F hb, s.lt⟩
theorem Ec.setA (s : Ec w wr m g a) : Ec w (wr.setRow w.heap.size mm.ag) mm g a := ⟨s.M.setA, Blk.rowFar s.F (by have := s.lt; omega), s.lt⟩
theorem Ec.alloc (s : Ec w wr m g a) (o : Obj) : Ec w (wr.alloc o) m g a := s.below ((Below.refl _ _).alloc (Nat.le_refl _) o)
theorem Ec.grown {A : Option Addr} {c : Nat} {xs : List Int} (s : Ec w wr m g a) (hO : Own wr (g + 1) A c xs) (hG : wr.grownBy w' (A.map (·.block))) : Ec w w' m g a := by
  have h1 := s.lt
  have h2 : g < wr.heap.size := Blk.lt s.F
  exact ⟨⟨Blk.grownA s.M.A hG (hO.ne_ (by omega)), Blk.grownA s.M.R hG (hO.ne_ (by omega)), below_grown s.M.bel (hO.more (base' := w.heap.size) (by omega)) hG (by omega)⟩, Blk.grownA s.F hG (hO.ne_ (by omega)), s.lt⟩
theorem Ec.glt (s : Ec w wr m g a) : g < wr.heap.size := Blk.lt s.F
end

set_option maxHeartbeats 4000000 in
theorem erase_any (m : Mm) (k : m.ok) (w : World) : Calls Try.prog 22 #[.agg m.ag] w (NewM w (coM m) (coY m) (errOf (goodM m))) := by
  have hR := results_mem3 (fn := Try.f22) (p := 2) (q := 3) (r := 4) rfl
  have S0 := hid (Ms.start w m)
  have K := hid k
  have KG := hid (fun W => good_any m k W)
  have KD := hid (fun W => show Calls Try.prog 58 #[.agg (ints m.r).toArray] W (Dirs W m.r) from direct_any m.r W k.r)
  have KX := hid (fun W => expand_any (dirL m.r) 32440 W (dirL_len _))
  have FR := hid (show coM m = if goodM m then msK (eraA m) m 2 else zeroM from rfl)
  have FY := hid (show coY m = if goodM m then ysK (eraA m) m 2 else [] from by unfold coY ysK ysK ysK; rfl)
  have hi8 : (Try.prog.info? 42).map (·.size) = some (ints m.r).length := by rw [ints_len, k.r]; exact size8'
  have HI8 := hid hi8
  have DL := hid (dirL_len m.r)
  have EL := hid (show (eraA m).length = 9 from exL_len _ _)
  clear k hi8
  go_enter Try.func22, Try.ntmps22
  go_wp2_with (refine wpList_loadM rfl (.tmp 1) rfl _ m rfl S0.out.A K.out ?_)
  refine (KG.out _).mono ?_
  rintro e w1 ⟨rfl, hB⟩
  have S1 := hid (S0.out.below hB)
  clear hB S0 KG
  cases hg : goodM m with
  | false =>
    have HG := hid hg
    clear hg
    have hRow := hid (MB.setRow S1.out.R zeroM)
    have FIN := hid (below_setRow S1.out.bel (g := w.heap.size + 1) (by omega) zeroM.ag)
    go_wp2_with (refine wpList_storeM rfl (.tmp 2) (.tmp 14) rfl _ zeroM zeroM rfl (congrArg Value.agg zeroM_ag) S1.out.R zeroM_ok zeroM_ok ?_)
    refine bodyPost_ret (v := _) (hR _ _ _ zeroM rfl hRow.out zeroM_ok) rfl ?_
    rw [FR.out, FY.out, HG.out]
    exact ⟨none, 0, rfl, Own.nil, FIN.out⟩
  | true =>
    have HG := hid hg
    clear hg
    go_wp2_with (refine wpList_load_mid rfl 42 (.tmp 16) rfl _ _ rfl (ints m.r) _ (S1.out.A.R K.out) Try.underlying42 rfl HI8.out ?_)
    refine (KD.out _).mono ?_
    rintro e w2 ⟨rfl, hB⟩
    have S2 := hid (S1.out.below hB)
    clear hB S1 KD
    obtain ⟨d, hd⟩ : ∃ d, d = dirL m.r := ⟨_, rfl⟩
    obtain ⟨a, ha⟩ : ∃ a, a = eraA m := ⟨_, rfl⟩
    have hx : exL d 32440 = a := by rw [ha, hd]; rfl
    have KX2 : ∀ W, Calls Try.prog 59 #[.agg (agi d), .int .i64 32440] W (fun e w' => e = .returned (.tuple #[.agg (agi a), .int .i64 (errOf (exB d 32440))]) ∧ Below W.heap.size W w') := fun W => by
      have := KX.out W
      unfold Exps at this
      rw [← hd, hx] at this
      exact this
    have KX2 := hid KX2
    clear KX
    rename_i KXr
    clear KXr
    rw [← hd] at DL ⊢
    rw [← ha] at FR FY EL
    clear hd ha hx
    go_wp2_with (first
      | (refine wpList_storeI rfl 23 (.tmp 5) (.tmp 19) rfl _ 23 Z9 d 9 rfl rfl (IB.new w2 23 Z9) size9 rfl DL.out ?_
         have B3 := below_stored w2 (.cells (agi Z9) 23) (agi d)
         obtain ⟨w3, hw3⟩ : ∃ w3, w3 = (w2.alloc (.cells (agi Z9) 23)).setRow w2.heap.size (agi d) := ⟨_, rfl⟩
         have S3 := hid (show Ms w w3 m by rw [hw3]; exact S2.out.below B3)
         have F3 := hid (show IB w3 w2.heap.size 23 d by rw [hw3]; exact IB.stored w2 23 Z9 d)
         rw [z9_eq] at hw3
         rw [← hw3]
         clear hw3 B3)
      | (refine wpList_loadI rfl 23 (.tmp 5) rfl _ 23 d 9 _ rfl F3.out Try.underlying23 rfl size9 DL.out ?_))
    refine (KX2.out _).mono ?_
    rintro e w4 ⟨rfl, hB⟩
    have S4 := hid (S3.out.below hB)
    have F4 := hid (Blk.below' F3.out hB)
    have GL := hid S2.out.lt
    obtain ⟨g5, hg5⟩ : ∃ g5, g5 = w2.heap.size := ⟨_, rfl⟩
    rw [← hg5] at F4 GL ⊢
    clear hB S2 S3 F3 hg5 KX2
    have E5 := hid (show Ec w (w4.setRow g5 (agi a)) m g5 a from ⟨⟨Blk.rowFar S4.out.A (by have := GL.out; omega), Blk.rowFar S4.out.R (by have := GL.out; omega), below_setRow S4.out.bel (by have := GL.out; omega) _⟩, IB.setRow F4.out a, GL.out⟩)
    go_wp2_with (refine wpList_storeI rfl 23 (.tmp 5) (.tmp 24) rfl _ 23 d a 9 rfl rfl F4.out size9 DL.out EL.out ?_)
    generalize w4.setRow g5 (agi a) = w5 at E5 ⊢
    clear S4 F4
    go_loopw [7, 26] (fun ov iv wr => ∃ (k : Nat) (A : Option Addr) (c n : Nat), k ≤ 2 ∧ iv = .int .i64 k ∧ ov = .slice A n c ∧ Hid ((ysK a m k).length = n) ∧ Hid (Own wr (g5 + 1) A c (ysK a m k)) ∧ Hid (Ec w wr (msK a m k) g5 a)) (fun _ iv _ => 2 - (intOf iv).toNat)
    case atStart => exact ⟨0, none, 0, 0, by omega, rfl, rfl, hid rfl, hid Own.nil, E5⟩
    case round =>
      clear E5
      obtain ⟨k, A, c, n, hk, rfl, rfl, HN, HO, HC⟩ := hrel
      by_cases hlt : k < 2
      · have KO := hid (msK_ok (a := a) K.out k)
        have KE := hid (fun W => erased_any (msK a m k) KO.out k W)
        have K1 := hid (eraR_ok KO.out (k : Int))
        have KP := hid (fun W A c (h : Rs W W.heap.size A (eraY (msK a m k) k)) => show Calls Try.prog 61 #[.agg (eraR (msK a m k) k).ag, .agg (agi a), .slice A (eraY (msK a m k) k).length c] W (PlayA W (stM a (msK a m k) k) (stY a (msK a m k) k)) from play_any (eraR (msK a m k) k) K1.out a _ A c _ W EL.out h rfl (eraY_len _ _))
        have K2 := hid (stM_ok KO.out a k)
        have YL := hid (stY_len a (msK a m k) k)
        have NM := hid (show msK a m (k + 1) = stM a (msK a m k) k from rfl)
        have NY := hid (show ysK a m (k + 1) = ysK a m k ++ stY a (msK a m k) k from rfl)
        have YN := hid (ysK_len a m k)
        generalize stM a (msK a m k) k = m2 at *
        generalize stY a (msK a m k) k = y at *
        generalize eraR (msK a m k) k = m1 at *
        generalize eraY (msK a m k) k = x at *
        generalize errOf (eraB (msK a m k) k) = er at *
        generalize msK a m k = mk at *
        generalize ysK a m k = ys at *
        go_wp2_with (refine wpList_loadM rfl (.tmp 1) rfl _ mk rfl HC.out.M.A KO.out ?_)
        refine (KE.out _).mono ?_
        rintro e w6 ⟨A6, c6, rfl, hO, hB⟩
        have C6 := hid (HC.out.below hB)
        have O6 := hid (HO.out.below hB)
        have SZ6 := hid hB.size
        have X6 := hid hO
        have GT := hid HC.out.glt
        clear hO hB HC HO KE
        have C7 := hid (C6.out.setA (mm := m1))
        have O7 := hid (O6.out.setRow (g := w.heap.size) (by have := C6.out.lt; omega) m1.ag)
        have X7 := hid (X6.out.setRow (g := w.heap.size) (by have := C6.out.lt; have := GT.out; omega) m1.ag).reads
        obtain ⟨w7, hw7⟩ : ∃ w7, w7 = w6.setRow w.heap.size m1.ag := ⟨_, rfl⟩
        rw [← hw7] at C7 O7 X7
        have HW7 := hid hw7
        clear hw7
        go_wp2_with (first
          | (refine wpList_storeM rfl (.tmp 1) (.tmp 33) rfl _ mk m1 rfl rfl C6.out.M.A KO.out K1.out ?_; rw [← HW7.out])
          | (refine wpList_loadM rfl (.tmp 1) rfl _ m1 rfl C7.out.M.A K1.out ?_)
          | (refine wpList_loadI rfl 23 (.tmp 5) rfl _ 23 a 9 _ rfl C7.out.F Try.underlying23 rfl size9 EL.out ?_))
        refine (KP.out _ _ _ X7.out).mono ?_
        rintro e w8 ⟨A8, c8, rfl, hO, hB⟩
        have C8 := hid (C7.out.below hB)
        have O8 := hid (O7.out.below hB)
        have GT8 := hid C7.out.glt
        have X8 := hid hO
        clear hO hB C6 C7 O6 O7 X6 X7 KP HW7
        have C9 := hid (C8.out.setA (mm := m2))
        have O9 := hid (O8.out.setRow (g := w.heap.size) (by have := C8.out.lt; omega) m2.ag)
        have X9 := hid (X8.out.setRow (g := w.heap.size) (by have := C8.out.lt; have := GT8.out; omega) m2.ag).reads
        obtain ⟨w9, hw9⟩ : ∃ w9, w9 = w8.setRow w.heap.size m2.ag := ⟨_, rfl⟩
        rw [← hw9] at C9 O9 X9
        have HW9 := hid hw9
        clear hw9
        have GT9 := hid C9.out.glt
        go_wp2_with (first
          | (refine wpList_storeM rfl (.tmp 1) (.tmp 41) rfl _ m1 m2 rfl rfl C8.out.M.A K1.out K2.out ?_; rw [← HW9.out])
          | (at_builtin; refine wpList_catN rfl (.tmp 43) (.tmp 44) rfl (g5 + 1) A c n ys rfl HN.out O9.out w9.heap.size A8 c8 y.length y rfl rfl X9.out (by have := YL.out; have := YN.out; have := HN.out; omega) (by have := GT9.out; omega) ?_; intro A10 c10 w10 hO hG hA; have C10 := hid (C9.out.grown O9.out hG); have O10 := hid hO; clear hO hG hA))
        go_roundw
        case rel => exact ⟨k + 1, A10, c10, n + y.length, by omega, by go_num, rfl, hid (by rw [NY.out, List.length_append, HN.out]), hid (by rw [NY.out]; exact O10.out), hid (by rw [NM.out]; exact C10.out)⟩
        case measure => simp [intOf] <;> omega
      · obtain rfl : k = 2 := by omega
        have OKS := hid (msK_ok (a := a) K.out 2)
        have hRow := hid (MB.setRow HC.out.M.R (msK a m 2))
        have FIN := hid (below_setRow HC.out.M.bel (g := w.heap.size + 1) (by omega) (msK a m 2).ag)
        have OF := hid ((HO.out.setRow (g := w.heap.size + 1) (by have := HC.out.lt; omega) (msK a m 2).ag).more (base' := w.heap.size) (by have := HC.out.lt; omega))
        generalize msK a m 2 = mf at *
        generalize ysK a m 2 = yf at *
        go_wp2_with (first
          | (refine wpList_loadM rfl (.tmp 1) rfl _ mf rfl HC.out.M.A OKS.out ?_)
          | (refine wpList_storeM rfl (.tmp 2) (.tmp 47) rfl _ zeroM mf rfl rfl HC.out.M.R zeroM_ok OKS.out ?_))
        refine bodyPost_ret (v := _) (hR _ _ _ mf rfl hRow.out OKS.out) rfl ?_
        rw [FR.out, FY.out, HG.out]
        exact ⟨A, c, by rw [if_pos rfl, if_pos rfl, HN.out]; rfl, by rw [if_pos rfl]; exact OF.out, FIN.out⟩
end Go.Proofs.Ytcfmipobgljbeaa

/- append of one number as a step of a drawing region. -/
namespace Go.Proofs.Ytcfmipobgljbeaa
set_option linter.unusedVariables false
set_option linter.unusedSimpArgs false
set_option maxRecDepth 100000
open Go.RowKit

theorem step_pushI {ops : Array Oper} {o : Oper} {a : Act} {w : World} {K : Act → World → Prop} {Q : Exit → Act → World → Prop} {E : Prop} (hgd : o.guard = none) (s x : Operand)
    (ho : o.op = .call { callee := .builtin .append, args := #[s, x], argTypes := #[22, 22] })
    (base : Nat) (A : Option Addr) (c n : Nat) (xs : List Int) (hs : a.eval s = .slice A n c) (hn : xs.length = n) (hown : Own w base A c xs)
    (ad : Addr) (y : Int) (hx : a.eval x = .slice (some ad) 1 1) (hc : w.cell? ad = some (.int .i64 y)) (hlen : n + 1 ≤ 17592186044416) (hbase : base ≤ w.heap.size)
    (h : ∀ A' c' w', Own w' base A' c' (xs ++ [y]) → w.grownBy w' (A.map (·.block)) → K (a.put o.dst (.slice A' (n + 1) c')) w') :
    if Region.wanted o (yielded ops a.tmps) = true then Oper.wp Try.prog o a w K Q else E := by
  have hw : Region.wanted o (yielded ops a.tmps) = true := by simp [Region.wanted, hgd]
  rw [if_pos hw]
  subst hn
  obtain ⟨i0, hi, hz0, hz1, hz2⟩ := info_parts infoI
  have hr : Reads w (ad.block + 1) 1 (some ad) 1 (ints [y]) := ⟨by simp [ints], fun _ => ⟨ad, rfl, by omega, fun j u hj => by
    match j, hj with
    | 0, hj => simp [ints] at hj; subst hj; have e : ad.add 0 = ad := by unfold Addr.add; simp
               rw [e]; exact hc⟩⟩
  obtain ⟨v', w', hrun, h2, h3, h4⟩ := run_append_any (P := Try.prog) w base 22 o.type 3 i0 (.int .i64 0) 1 8 Try.underlying22 hi hz0 hz1 hz2 rfl (by omega) _ _ _ hown (ad.block + 1) (some ad) 1 1 (ints [y]) hr (ints_one [y]) (by unfold maxLen; omega) (by omega) hbase
  obtain ⟨A', c', rfl, hO⟩ := own_form h2 (ints_append xs [y])
  have hl : (xs ++ [y]).length = xs.length + 1 := by simp
  unfold Oper.wp execOp
  simp only [ho, resolve, invoke, builtin, Sem.run_bind, Sem.run_pure, Result.andThen_ok, List.map_toArray, List.map_cons, List.map_nil, hs, hx, hrun]
  rw [hl]
  exact h A' c' w' hO (by cases A <;> exact h3)
end Go.Proofs.Ytcfmipobgljbeaa

/- The reference's MixExc. -/
namespace Go.Proofs.Ytcfmipobgljbeaa
set_option linter.unusedVariables false
set_option linter.unusedSimpArgs false
set_option maxRecDepth 100000
open Go.RowKit

set_option maxHeartbeats 4000000 in
theorem refMix_any (h x : List Int) (lag g : Int) (A : Option Addr) (c n : Nat) (w : World) (hh : h.length = 80) (hr : Rs w w.heap.size A x) (hn : x.length = n) (hl : n ≤ 17592186044416) (hw : W64 h) (hwx : W64 x) :
    Calls Try.prog 97 #[.agg (agi h), .int .i64 lag, .int .i64 g, .slice A n c] w (NewSE w (mxL h x lag g n) (mxR lag g n)) := by
  have A0 := hid (IB.new w 34 h)
  have B0 := hid ((Below.refl w.heap.size w).alloc (Nat.le_refl _) (.cells (agi h) 34))
  have HH := hid hh
  have HR := hid hr
  have HN := hid hn
  by_cases h40 : n = 40
  · subst h40
    by_cases hg : (20 ≤ lag ∧ lag ≤ 79) ∧ 0 ≤ g ∧ g ≤ 32767
    · obtain ⟨⟨l1, l2⟩, g1, g2⟩ := hg
      have hb := pastB_yes l1 l2
      have KP := hid (fun W => refPast_any h lag W hh)
      have hlen := pastL_len (h := h) hb
      have hP64 : W64 (pastL h lag) := fun y hy => by
        unfold pastL at hy
        rw [if_pos hb] at hy
        obtain ⟨i, _, rfl⟩ := List.mem_map.1 hy
        exact hw.at_ _
      obtain ⟨e1, e2⟩ := mx_good (h := h) (x := x) (lag := lag) (g := g) (by unfold mxB; rw [hb]; simp; omega)
      have E1 := hid e1
      rw [e2]
      rw [hb] at KP
      have HPL := hid hlen
      have HP64 := hid hP64
      have HX64 := hid hwx
      have HE := hid (fun i => show mxE h x lag g i = mxV ((pastL h lag).getD i 0) g (x.getD i 0) from rfl)
      generalize pastL h lag = P at *
      clear e1 e2 hb hlen hP64 hwx hw hr hn hh
      go_enter Try.func97, Try.ntmps97
      go_wp2_with (refine wpList_loadI rfl 34 (.tmp 4) rfl _ 34 h 80 _ rfl A0.out Try.underlying34 rfl size80k HH.out ?_)
      refine (KP.out _).mono ?_
      rintro e w1 ⟨A1, c1, rfl, hO, hB⟩
      have L1 := hid (B0.out.trans (hB.mono B0.out.size))
      obtain ⟨gv, rfl, gv1, gv2⟩ := hO.head (by rw [HPL.out]; omega)
      have O1 := hid (hO.more (base' := w.heap.size) (by simp))
      have hgv : w.heap.size ≤ gv := by simp at gv1; omega
      have HGV2 := hid gv2
      have HL1 := hid L1.out.size
      rw [HPL.out]
      clear hO hB gv1 gv2 l1 l2
      go_wp2
      go_loopw [12, 39] (fun ov iv wr => ∃ (k : Nat) (A2 : Option Addr) (c2 : Nat), k ≤ 40 ∧ iv = .int .i64 k ∧ ov = .slice A2 k c2 ∧ Hid (Own wr w1.heap.size A2 c2 ((List.range k).map (mxE h x lag g))) ∧ Hid (Own wr w.heap.size (some ⟨gv, 0, none⟩) c1 P) ∧ Hid (Below w.heap.size w wr) ∧ Hid (w1.heap.size ≤ wr.heap.size)) (fun _ iv _ => 40 - (intOf iv).toNat)
      case atStart => exact ⟨0, none, 0, by omega, rfl, rfl, hid Own.nil, O1, L1, hid (Nat.le_refl _)⟩
      case round =>
        clear O1 L1
        obtain ⟨k, A2, c2, hk, rfl, rfl, HO, HV1, HB, HS⟩ := hrel
        by_cases hlt : k < 40
        · obtain ⟨ad, rfl, hadb, cb0⟩ := HR.out.at_ (k := k) (by rw [HN.out]; exact hlt)
          have cb := (HB.out.cell (p := ad.add k) (by rw [block_of_add]; exact hadb)).trans cb0
          have cp := HV1.out.cell k (by rw [HPL.out]; exact hlt)
          have hk40 : (k : Int) < 40 := by omega
          have HV := HE.out k
          have p64 := HP64.out.at_ k
          have b64 := HX64.out.at_ k
          have YN := hid (show (List.range k).map (mxE h x lag g) ++ [mxE h x lag g k] = (List.range (k + 1)).map (mxE h x lag g) from snoc_range _)
          have YL := hid (show ((List.range k).map (mxE h x lag g)).length = k by simp)
          generalize (List.range k).map (mxE h x lag g) = Y at *
          obtain ⟨p, hp⟩ : ∃ p, p = P.getD k 0 := ⟨_, rfl⟩
          obtain ⟨b, hb⟩ : ∃ b, b = x.getD k 0 := ⟨_, rfl⟩
          have HCP := hid (fun W (o : Own W w.heap.size (some ⟨gv, 0, none⟩) c1 P) => show W.cell? ⟨gv, k, none⟩ = some (.int .i64 p) by rw [hp]; exact o.cell k (by rw [HPL.out]; exact hlt))
          rw [← hp] at cp HV p64
          rw [← hb] at cb cb0 HV b64
          have CB0 := hid cb0
          unfold mxV at HV
          have KA := hid (fun W => S_any p W p64.1 p64.2)
          have KB := hid (fun W => S_any b W b64.1 b64.2)
          have ra := s16_range p
          have rb := s16_range b
          generalize s16 p = sa at KA HV ra
          generalize s16 b = sb at KB HV rb
          have hq := mx_mul ra.1 ra.2 g1 g2
          obtain ⟨q, hqe⟩ : ∃ q, sa * g = q := ⟨_, rfl⟩
          rw [hqe] at hq HV
          have hw1 : IntKind.i64.wrap (sa * g) = q := by rw [hqe, IntKind.wrap_i64]; omega
          have hw2 : IntKind.i64.wrap (q + 8192) = q + 8192 := by rw [IntKind.wrap_i64]; omega
          have KD := hid (fun W => down14 (q + 8192) W (by omega) (by omega))
          obtain ⟨r, hre⟩ : ∃ r, r = (q + 8192) / 16384 := ⟨_, rfl⟩
          rw [← hre] at KD HV
          obtain ⟨t, ht⟩ : ∃ t, t = r + sb := ⟨_, rfl⟩
          have hw3 : IntKind.i64.wrap (r + sb) = t := by rw [ht, IntKind.wrap_i64]; omega
          rw [← ht] at HV
          have KT := hid (fun W => S_any t W (by omega) (by omega))
          obtain ⟨y, hy⟩ : ∃ y, y = s16 t := ⟨_, rfl⟩
          rw [← hy] at KT HV
          rw [HV] at YN
          have hgvW : gv < wr.heap.size := by have := HGV2.out; have := HS.out; omega
          have hadW : ad.block < wr.heap.size := by have := HB.out.size; omega
          have HADB := hid hadb
          clear hp hb ra rb hq hqe hre ht hy HV p64 b64 hadb cb0
          go_wp2
          go_region_held3 (fun w' => w'.cell? ⟨gv, k, none⟩ = some (.int .i64 p) ∧ w'.cell? (ad.add k) = some (.int .i64 b)) (go_keep) (first
            | (go_at_call 82; (with_reducible refine (KA.out wr.drew).mono ?_); rintro e' wA ⟨rfl, hBA⟩; have LA : Below wr.heap.size wr wA := ((Below.refl wr.heap.size wr).drew).trans (hBA.mono (Nat.le_refl _)); have a0 : World.cell? wA ⟨gv, k, none⟩ = some (.int .i64 p) := (LA.cell hgvW).trans cp; have a1 : World.cell? wA (ad.add k) = some (.int .i64 b) := (LA.cell (by rw [block_of_add]; omega)).trans cb; have LA := hid LA; clear hBA)
            | (go_at_call 29; (with_reducible refine (KD.out wA).mono ?_); rintro e' wB ⟨rfl, hBB⟩; have LB : Below wr.heap.size wr wB := LA.out.trans (hBB.mono LA.out.size); have b0 : World.cell? wB ⟨gv, k, none⟩ = some (.int .i64 p) := (LB.cell hgvW).trans cp; have b1 : World.cell? wB (ad.add k) = some (.int .i64 b) := (LB.cell (by rw [block_of_add]; omega)).trans cb; have LB := hid LB; clear hBB)
            | (go_at_call 82; (with_reducible refine (KB.out wB).mono ?_); rintro e' wC ⟨rfl, hBC⟩; have LC : Below wr.heap.size wr wC := LB.out.trans (hBC.mono LB.out.size); have e0 : World.cell? wC ⟨gv, k, none⟩ = some (.int .i64 p) := (LC.cell hgvW).trans cp; have e1 : World.cell? wC (ad.add k) = some (.int .i64 b) := (LC.cell (by rw [block_of_add]; omega)).trans cb; have LC := hid LC; clear hBC)
            | (go_at_call 82; (with_reducible refine (KT.out wC).mono ?_); rintro e' wD ⟨rfl, hBD⟩; have LD : Below wr.heap.size wr wD := LC.out.trans (hBD.mono LC.out.size); have d0 : World.cell? wD ⟨gv, k, none⟩ = some (.int .i64 p) := (LD.cell hgvW).trans cp; have d1 : World.cell? wD (ad.add k) = some (.int .i64 b) := (LD.cell (by rw [block_of_add]; omega)).trans cb; have LD := hid LD; clear hBD)
            | (refine step_pushI rfl (.tmp 42) (.tmp 59) rfl w1.heap.size A2 c2 k Y rfl YL.out ((HO.out.below LD.out).alloc _) ⟨wD.heap.size, 0, none⟩ y rfl (cell_new wD _ _) (by omega) (by have := HS.out; have := LD.out.size; simp; omega) ?_; intro A3 c3 w5 hO hG; have V5 := (((HV1.out.below LD.out).alloc (.cells #[.int .i64 y] 3)).kept hG (fun a ha => by injection ha with ha; subst ha; cases A2 with | none => simp | some a2 => have := HO.out.lt a2 rfl; have := HGV2.out; simp; omega)); have B5 : Below w.heap.size w w5 := (((HB.out.trans (LD.out.mono HB.out.size)).alloc (by have := HB.out.size; have := LD.out.size; omega) (.cells #[.int .i64 y] 3)).grown hG (by have := HB.out.size; have := LD.out.size; simp; omega) (fun i hi => by cases A2 with | none => simp at hi | some a2 => have := HO.out.lt a2 rfl; have := HL1.out; simp at hi; omega)); have f0 := HCP.out w5 V5; have f1 : World.cell? w5 (ad.add k) = some (.int .i64 b) := (B5.cell (p := ad.add k) (by rw [block_of_add]; exact HADB.out)).trans CB0.out; have V5 := hid V5; have B5 := hid B5; have O5 := hid hO; have G5 := hid hG.size; clear hO hG))
          rename_i hHeldZ
          clear hHeldZ
          clear a0 a1 b0 b1 e0 e1 d0 d1 f0 f1 cp cb hw1 hw2 hw3
          simp only [Exit.then, Exit.inBlock]
          have S5 := hid (show w1.heap.size ≤ w5.heap.size by have h1 := HS.out; have h2 := HB.out.size; have h3 := LD.out.size; have h4 := G5.out; simp at h4; omega)
          go_wp2
          go_roundw
          case rel => exact ⟨k + 1, A3, c3, by omega, by go_num, rfl, hid (by have := O5.out; rwa [YN.out] at this), V5, B5, S5⟩
          case measure => simp [intOf] <;> omega
        · obtain rfl : k = 40 := by omega
          go_wp2
          go_ret2
          rw [E1.out]
          exact ⟨A2, c2, by simp, HO.out.more (by have := HL1.out; omega), HB.out⟩
    · obtain ⟨e1, e2⟩ := mx_bad (h := h) (x := x) (lag := lag) (g := g) (by unfold mxB pastB; simp; omega)
      rw [e1, e2]
      have FIN := hid (NewSE.none_ (er := 2) B0.out)
      clear e1 e2 hw hwx hr hn hh
      by_cases c1 : lag < 20
      · clear hg
        go_enter Try.func97, Try.ntmps97
        go_wp2
        go_ret2
        exact FIN.out
      by_cases c2 : 79 < lag
      · clear hg
        go_enter Try.func97, Try.ntmps97
        go_wp2
        go_ret2
        exact FIN.out
      by_cases c3 : g < 0
      · clear hg
        go_enter Try.func97, Try.ntmps97
        go_wp2
        go_ret2
        exact FIN.out
      · have c4 : 32767 < g := by omega
        clear hg
        go_enter Try.func97, Try.ntmps97
        go_wp2
        go_ret2
        exact FIN.out
  · obtain ⟨e1, e2⟩ := mx_size (h := h) (x := x) (lag := lag) (g := g) h40
    rw [e1, e2]
    have d1 : ((n : Int) == 40) = false := by simp; omega
    have d2 : ((n : Int) != 40) = true := by simp; omega
    have FIN := hid (NewSE.none_ (er := 1) B0.out)
    clear h40 e1 e2
    go_enter Try.func97, Try.ntmps97
    go_wp2
    go_ret2
    exact FIN.out
end Go.Proofs.Ytcfmipobgljbeaa

/- The reference's Erased. -/
namespace Go.Proofs.Ytcfmipobgljbeaa
set_option linter.unusedVariables false
set_option linter.unusedSimpArgs false
set_option maxRecDepth 100000
open Go.RowKit

theorem w64_e {m : Mm} (h : W64 m.nums) : W64 m.e := fun x hx => h x (by unfold Mm.nums; simp [hx])

set_option maxHeartbeats 8000000 in
theorem refErased_any (m : Mm) (k : m.ok) (hw64 : W64 m.nums) (half : Int) (w : World) : Calls Try.prog 65 #[.agg m.ag, .int .i64 half] w (NewM w (eraR m half) (eraY m half) (errOf (eraB m half))) := by
  have hR := results_mem3 (fn := Try.f65) (p := 4) (q := 5) (r := 6) rfl
  have S0 := hid (Ms.start w m)
  have K := hid k
  have KG := hid (fun W => refGood_any m k hw64 W)
  have HW64 := hid hw64
  clear k hw64
  go_enter Try.func65, Try.ntmps65
  go_wp2_with (refine wpList_loadM rfl (.tmp 2) rfl _ m rfl S0.out.A K.out ?_)
  refine (KG.out _).mono ?_
  rintro e w1 ⟨rfl, hB⟩
  have S1 := hid (S0.out.below hB)
  clear hB S0 KG
  cases hg : goodM m with
  | false =>
    have HE := hid (show eraB m half = false by unfold eraB; rw [hg]; rfl)
    clear hg
    have FR := hid (show eraR m half = zeroM by unfold eraR; rw [HE.out]; rfl)
    have FY := hid (show eraY m half = [] by unfold eraY; rw [HE.out]; rfl)
    have hRow := hid (MB.setRow S1.out.R zeroM)
    have FIN := hid (below_setRow S1.out.bel (g := w.heap.size + 1) (by omega) zeroM.ag)
    go_wp2_with (refine wpList_storeM rfl (.tmp 4) (.tmp 22) rfl _ zeroM zeroM rfl (congrArg Value.agg zeroM_ag) S1.out.R zeroM_ok zeroM_ok ?_)
    refine bodyPost_ret (v := _) (hR _ _ _ zeroM rfl hRow.out zeroM_ok) rfl ?_
    rw [FR.out, FY.out, HE.out]
    exact ⟨none, 0, rfl, Own.nil, FIN.out⟩
  | true =>
  by_cases h1 : half < 0
  · have HE := hid (show eraB m half = false by unfold eraB; simp; omega)
    clear hg
    have FR := hid (show eraR m half = zeroM by unfold eraR; rw [HE.out]; rfl)
    have FY := hid (show eraY m half = [] by unfold eraY; rw [HE.out]; rfl)
    have hRow := hid (MB.setRow S1.out.R zeroM)
    have FIN := hid (below_setRow S1.out.bel (g := w.heap.size + 1) (by omega) zeroM.ag)
    go_wp2_with (refine wpList_storeM rfl (.tmp 4) (.tmp 22) rfl _ zeroM zeroM rfl (congrArg Value.agg zeroM_ag) S1.out.R zeroM_ok zeroM_ok ?_)
    refine bodyPost_ret (v := _) (hR _ _ _ zeroM rfl hRow.out zeroM_ok) rfl ?_
    rw [FR.out, FY.out, HE.out]
    exact ⟨none, 0, rfl, Own.nil, FIN.out⟩
  by_cases h2 : 1 < half
  · have HE := hid (show eraB m half = false by unfold eraB; simp; omega)
    clear hg
    have FR := hid (show eraR m half = zeroM by unfold eraR; rw [HE.out]; rfl)
    have FY := hid (show eraY m half = [] by unfold eraY; rw [HE.out]; rfl)
    have hRow := hid (MB.setRow S1.out.R zeroM)
    have FIN := hid (below_setRow S1.out.bel (g := w.heap.size + 1) (by omega) zeroM.ag)
    go_wp2_with (refine wpList_storeM rfl (.tmp 4) (.tmp 22) rfl _ zeroM zeroM rfl (congrArg Value.agg zeroM_ag) S1.out.R zeroM_ok zeroM_ok ?_)
    refine bodyPost_ret (v := _) (hR _ _ _ zeroM rfl hRow.out zeroM_ok) rfl ?_
    rw [FR.out, FY.out, HE.out]
    exact ⟨none, 0, rfl, Own.nil, FIN.out⟩
  have HE := hid (show eraB m half = true by unfold eraB; rw [hg]; simp; omega)
  have HT := hid (goodM_of hg).2.2.2
  have FR := hid (show eraR m half = eraN (eraP m half) by unfold eraR; rw [HE.out]; rfl)
  have FY := hid (show eraY m half = eraX (eraP m half) by unfold eraY; rw [HE.out]; rfl)
  clear hg
  have key : (half = 0 ∧ m.er < 6) ∨ (half = 0 ∧ ¬ m.er < 6) ∨ half = 1 := by omega
  have a5 : w1.cell? ⟨w.heap.size, 99, none⟩ = some (.int .i64 m.er) := S1.out.A.cer K.out
  have f5 : w1.frozen? ⟨w.heap.size, 99, none⟩ = false := MB.frozen S1.out.A 99
  have hM : ∃ m2 : Mm, m2 = eraP m half := ⟨_, rfl⟩
  obtain ⟨m2, hm2⟩ := hM
  rw [← hm2] at FR FY
  have K2 := hid (show m2.ok by rw [hm2]; exact eraP_ok K.out half)
  have HLA := hid (show 20 ≤ m2.la ∧ m2.la ≤ 79 by rw [hm2]; exact HT.out.1)
  have HSE := hid (show -9223372036854775808 ≤ m2.se ∧ m2.se ≤ 9223372036854775807 by rw [hm2]; have : 0 ≤ m.se ∧ m.se < 65536 := HT.out.2.1; show -9223372036854775808 ≤ m.se ∧ m.se ≤ 9223372036854775807; omega)
  have HE64 := hid (show W64 m2.e by rw [hm2]; show W64 m.e; exact w64_e HW64.out)
  rcases key with ⟨rfl, h6⟩ | ⟨rfl, h6⟩ | rfl
  · have hw1 : IntKind.i64.wrap (m.er + 1) = m.er + 1 := by have := HT.out.2.2.2.2; rw [IntKind.wrap_i64]; omega
    have MM := hid (show Ms w (w1.setCell ⟨w.heap.size, 99, none⟩ (.int .i64 (m.er + 1))) m2 by
      have := S1.out.er K.out (m.er + 1)
      rw [hm2]
      unfold eraP er1
      rw [if_pos ⟨rfl, h6⟩]
      exact this)
    clear hm2 h1 h2
    go_wp2_with fail
    obtain ⟨W2, hW2⟩ : ∃ W2, W2 = w1.setCell ⟨w.heap.size, 99, none⟩ (.int .i64 (m.er + 1)) := ⟨_, rfl⟩
    rw [← hW2] at MM ⊢
    clear hW2 a5 f5 hw1 h6
    have c96 : W2.cell? ⟨w.heap.size, 96, none⟩ = some (.int .i64 m2.ga) := MM.out.A.cga K2.out
    have c99 : W2.cell? ⟨w.heap.size, 99, none⟩ = some (.int .i64 m2.er) := MM.out.A.cer K2.out
    have c100 : W2.cell? ⟨w.heap.size, 100, none⟩ = some (.int .i64 m2.se) := MM.out.A.cse K2.out
    have KN := hid (fun W => show Calls Try.prog 95 #[.int .i64 m2.se, .int .i64 (eraZ m2), .int .i64 40] W (NzA W m2.se (eraZ m2) 40) from refNoises_any (eraZ m2) 40 m2.se W (by omega) HSE.out.1 HSE.out.2)
    have KM := hid (fun W A c (hr : Rs W W.heap.size A (nzL m2.se (eraZ m2) 40)) => show Calls Try.prog 97 #[.agg (ints m2.e).toArray, .int .i64 m2.la, .int .i64 (fade m2.pi m2.er), .slice A 40 c] W (fun e w' => ∃ A c, e = .returned (.tuple #[.slice A 40 c, .int .i64 0]) ∧ Own w' W.heap.size A c (eraX m2) ∧ Below W.heap.size W w') from by
      refine (refMix_any m2.e _ m2.la (fade m2.pi m2.er) A c 40 W K2.out.e hr (nzL_len _ _ _) (by omega) HE64.out (w64_of16 (nzL_in _ _ _))).mono ?_
      rintro e w' ⟨A', c', h1, h2, h3⟩
      rw [(mx_good (h := m2.e) (x := nzL m2.se (eraZ m2) 40) (eraX_good HLA.out)).2] at h1
      have hl := eraX_len HLA.out
      unfold eraX at hl
      rw [hl] at h1
      exact ⟨A', c', h1, h2, h3⟩)
    have XL := hid (eraX_len HLA.out)
    have X64 := hid (show W64 (eraX m2) from w64_of16 (mxL_in _ _ _ _ _))
    have EN := hid (show eraN m2 = { m2 with se := nzE m2.se 40, e := keepL m2.e (eraX m2) } from rfl)
    have KF0 := fun W => refFade_any m2.ga m2.er W
    have KG0 := fun W => refFade_any m2.pi m2.er W
    have fb := fade_range m2.ga m2.er
    have hwz : IntKind.i64.wrap (eraZ m2) = eraZ m2 := by unfold eraZ; rw [IntKind.wrap_i64]; omega
    have hq : (fade m2.ga m2.er).tdiv 4 = eraZ m2 := by unfold eraZ; exact Int.tdiv_eq_ediv_of_nonneg fb.1
    generalize eraX m2 = x at *
    generalize eraZ m2 = z at *
    generalize fade m2.ga m2.er = f at *
    generalize fade m2.pi m2.er = f2 at *
    have KF := hid KF0
    have KG := hid KG0
    clear KF0 KG0 fb
    go_region_held3 (fun w' => w'.cell? ⟨w.heap.size, 96, none⟩ = some (.int .i64 m2.ga) ∧ w'.cell? ⟨w.heap.size, 99, none⟩ = some (.int .i64 m2.er) ∧ w'.cell? ⟨w.heap.size, 100, none⟩ = some (.int .i64 m2.se)) (first | exact ⟨by assumption, by assumption, by assumption⟩ | go_keep) (first
      | (go_at_call 96; (with_reducible refine (KF.out W2.drew).mono ?_); rintro e' wA ⟨rfl, hB⟩; have MA : Ms w wA m2 := MM.out.drew.below hB; have a96 : wA.cell? ⟨w.heap.size, 96, none⟩ = some (.int .i64 m2.ga) := MA.A.cga K2.out; have a99 : wA.cell? ⟨w.heap.size, 99, none⟩ = some (.int .i64 m2.er) := MA.A.cer K2.out; have a100 : wA.cell? ⟨w.heap.size, 100, none⟩ = some (.int .i64 m2.se) := MA.A.cse K2.out; have MA := hid MA; clear hB)
      | (go_at_call 95; (with_reducible refine (KN.out wA).mono ?_); rintro e' w3 ⟨A3, c3, rfl, hO, hB⟩; have M3 : Ms w w3 m2 := MA.out.below hB; have d96 : w3.cell? ⟨w.heap.size, 96, none⟩ = some (.int .i64 m2.ga) := M3.A.cga K2.out; have d99 : w3.cell? ⟨w.heap.size, 99, none⟩ = some (.int .i64 m2.er) := M3.A.cer K2.out; have d100 : w3.cell? ⟨w.heap.size, 100, none⟩ = some (.int .i64 m2.se) := M3.A.cse K2.out; have M3 := hid M3; have O3 := hid (hO.more (base' := w.heap.size + 2) MA.out.lt); clear hO hB))
    rename_i hHeldZ
    clear hHeldZ
    clear c96 c99 c100 a96 a99 a100 d96 d99 d100 hq hwz MM KN KF MA
    have rg4 : w3.rangeAt w.heap.size 16 (ints m2.e) := M3.out.A.E K2.out
    have c98 : w3.cell? ⟨w.heap.size, 98, none⟩ = some (.int .i64 m2.la) := M3.out.A.cla K2.out
    have c97 : w3.cell? ⟨w.heap.size, 97, none⟩ = some (.int .i64 m2.pi) := M3.out.A.cpi K2.out
    have c99 : w3.cell? ⟨w.heap.size, 99, none⟩ = some (.int .i64 m2.er) := M3.out.A.cer K2.out
    have hu80 := Try.underlying34
    have hi80 : (Try.prog.info? 34).map (·.size) = some (ints m2.e).length := by rw [ints_len, K2.out.e]; exact size80k
    simp only [Exit.then]
    go_wp2_with fail
    go_region_held3 (fun w' => w'.rangeAt w.heap.size 16 (ints m2.e) ∧ w'.cell? ⟨w.heap.size, 98, none⟩ = some (.int .i64 m2.la) ∧ w'.cell? ⟨w.heap.size, 97, none⟩ = some (.int .i64 m2.pi) ∧ w'.cell? ⟨w.heap.size, 99, none⟩ = some (.int .i64 m2.er)) (first | exact ⟨by assumption, by assumption, by assumption, by assumption⟩ | go_keep) (first
      | (go_at_call 96; (with_reducible refine (KG.out w3.drew).mono ?_); rintro e' wB ⟨rfl, hB⟩; have MB1 : Ms w wB m2 := M3.out.drew.below hB; have rgB : wB.rangeAt w.heap.size 16 (ints m2.e) := MB1.A.E K2.out; have b98 : wB.cell? ⟨w.heap.size, 98, none⟩ = some (.int .i64 m2.la) := MB1.A.cla K2.out; have b97 : wB.cell? ⟨w.heap.size, 97, none⟩ = some (.int .i64 m2.pi) := MB1.A.cpi K2.out; have b99 : wB.cell? ⟨w.heap.size, 99, none⟩ = some (.int .i64 m2.er) := MB1.A.cer K2.out; have MB1 := hid MB1; have RB := hid ((O3.out.drew.below hB).reads); clear hB)
      | (go_at_call 97; (with_reducible refine (KM.out wB A3 c3 RB.out).mono ?_); rintro e' w5 ⟨A5, c5, rfl, hO, hB⟩; have M5 : Ms w w5 m2 := MB1.out.below hB; have rg5 : w5.rangeAt w.heap.size 16 (ints m2.e) := M5.A.E K2.out; have d98 : w5.cell? ⟨w.heap.size, 98, none⟩ = some (.int .i64 m2.la) := M5.A.cla K2.out; have d97 : w5.cell? ⟨w.heap.size, 97, none⟩ = some (.int .i64 m2.pi) := M5.A.cpi K2.out; have d99 : w5.cell? ⟨w.heap.size, 99, none⟩ = some (.int .i64 m2.er) := M5.A.cer K2.out; have M5 := hid M5; have O5 := hid (hO.more (base' := w.heap.size + 2) MB1.out.lt); clear hO hB))
    rename_i hHeldZ
    clear hHeldZ
    clear rg4 c98 c97 c99 rgB b98 b97 b99 rg5 d98 d97 d99 hu80 KM KG M3 O3 MB1 RB
    have c100 : w5.cell? ⟨w.heap.size, 100, none⟩ = some (.int .i64 m2.se) := M5.out.A.cse K2.out
    have f100 : w5.frozen? ⟨w.heap.size, 100, none⟩ = false := MB.frozen M5.out.A 100
    have K3 := hid (K2.out.se (nzE m2.se 40))
    have M6 := hid (M5.out.se K2.out (nzE m2.se 40))
    have O6 := hid (Own.setC (g := w.heap.size) O5.out (by omega) 100 (.int .i64 (nzE m2.se 40)))
    have KL := hid (keepL_len K2.out.e XL.out)
    have KK := hid (fun W A c (h : Rs W W.heap.size A x) => show Calls Try.prog 98 #[.agg (ints m2.e).toArray, .slice A 40 c] W (Keeps W m2.e x 40) from refKeep_any m2.e _ A c 40 W K2.out.e h XL.out (by omega) X64.out)
    have HI80 := hid hi80
    clear hi80
    obtain ⟨w6, hw6⟩ : ∃ w6, w6 = w5.setCell ⟨w.heap.size, 100, none⟩ (.int .i64 (nzE m2.se 40)) := ⟨_, rfl⟩
    rw [← hw6] at M6 O6
    have HW6 := hid hw6
    clear hw6
    simp only [Exit.then]
    go_wp2_with (first
      | (rw [← HW6.out])
      | (refine wpList_load_mid rfl 34 (.tmp 63) rfl _ _ rfl (ints m2.e) _ (M6.out.A.E K3.out) Try.underlying34 rfl HI80.out ?_))
    refine (KK.out w6 A5 c5 O6.out.reads).mono ?_
    rintro e w8 ⟨rfl, hB⟩
    have M8 := hid (M6.out.below hB)
    have O8 := hid (O6.out.below hB)
    clear hB M5 M6 O5 O6 KK c100 f100 HW6
    have hKE := hid (show keepA m2.e x 40 = keepL m2.e x from rfl)
    rw [hKE.out]
    have M7 := hid (M8.out.ex K3.out _ KL.out)
    have O7 := hid (Own.setCs (g := w.heap.size) (by omega) (ints (keepL m2.e x)) 16 _ O8.out)
    have SZ := hid (show (Try.prog.info? 34).map (·.size) = some (agi (keepL m2.e x)).size from by rw [agi_size, KL.out]; exact size80k)
    have TH := hid (show w8.there w.heap.size 16 (agi (keepL m2.e x)).size from by rw [agi_size, KL.out]; exact M8.out.A.thereE K3.out)
    have OKS := hid (show (eraN m2).ok by rw [EN.out]; exact (K3.out.ex KL.out))
    obtain ⟨w7, hw7⟩ : ∃ w7, w7 = w8.setCells w.heap.size 16 (ints (keepL m2.e x)) := ⟨_, rfl⟩
    rw [← hw7] at M7 O7
    have HW7 := hid hw7
    have T7 := hid (show Ms w w7 (eraN m2) by rw [EN.out]; exact M7.out)
    clear hw7 M7 EN
    have hRow := hid (MB.setRow T7.out.R (eraN m2))
    have FIN := hid (below_setRow T7.out.bel (g := w.heap.size + 1) (by omega) (eraN m2).ag)
    have OF := hid ((O7.out.setRow (g := w.heap.size + 1) (by omega) (eraN m2).ag).more (base' := w.heap.size) (by omega))
    go_wp2_with (first
      | (refine wpList_store_mid rfl 34 (.tmp 69) (.tmp 67) rfl w.heap.size 16 (agi (keepL m2.e x)) rfl rfl TH.out SZ.out (agi_one _) ?_; rw [show (agi (keepL m2.e x)).toList = ints (keepL m2.e x) from rfl, ← HW7.out])
      | (refine wpList_loadM rfl (.tmp 2) rfl _ (eraN m2) rfl T7.out.A OKS.out ?_)
      | (refine wpList_storeM rfl (.tmp 4) (.tmp 70) rfl _ zeroM (eraN m2) rfl rfl T7.out.R zeroM_ok OKS.out ?_))
    refine bodyPost_ret (v := _) (hR _ _ _ (eraN m2) rfl hRow.out OKS.out) rfl ?_
    rw [FR.out, FY.out, HE.out]
    exact ⟨A5, c5, by rw [XL.out]; rfl, OF.out, FIN.out⟩
  · have MM := hid (show Ms w w1 m2 by
      rw [hm2]
      unfold eraP er1
      rw [if_neg (by omega)]
      exact S1.out)
    clear hm2 h1 h2
    go_wp2_with fail
    obtain ⟨W2, hW2⟩ : ∃ W2, W2 = w1 := ⟨_, rfl⟩
    rw [← hW2] at MM ⊢
    clear hW2 a5 f5 h6
    have c96 : W2.cell? ⟨w.heap.size, 96, none⟩ = some (.int .i64 m2.ga) := MM.out.A.cga K2.out
    have c99 : W2.cell? ⟨w.heap.size, 99, none⟩ = some (.int .i64 m2.er) := MM.out.A.cer K2.out
    have c100 : W2.cell? ⟨w.heap.size, 100, none⟩ = some (.int .i64 m2.se) := MM.out.A.cse K2.out
    have KN := hid (fun W => show Calls Try.prog 95 #[.int .i64 m2.se, .int .i64 (eraZ m2), .int .i64 40] W (NzA W m2.se (eraZ m2) 40) from refNoises_any (eraZ m2) 40 m2.se W (by omega) HSE.out.1 HSE.out.2)
    have KM := hid (fun W A c (hr : Rs W W.heap.size A (nzL m2.se (eraZ m2) 40)) => show Calls Try.prog 97 #[.agg (ints m2.e).toArray, .int .i64 m2.la, .int .i64 (fade m2.pi m2.er), .slice A 40 c] W (fun e w' => ∃ A c, e = .returned (.tuple #[.slice A 40 c, .int .i64 0]) ∧ Own w' W.heap.size A c (eraX m2) ∧ Below W.heap.size W w') from by
      refine (refMix_any m2.e _ m2.la (fade m2.pi m2.er) A c 40 W K2.out.e hr (nzL_len _ _ _) (by omega) HE64.out (w64_of16 (nzL_in _ _ _))).mono ?_
      rintro e w' ⟨A', c', h1, h2, h3⟩
      rw [(mx_good (h := m2.e) (x := nzL m2.se (eraZ m2) 40) (eraX_good HLA.out)).2] at h1
      have hl := eraX_len HLA.out
      unfold eraX at hl
      rw [hl] at h1
      exact ⟨A', c', h1, h2, h3⟩)
    have XL := hid (eraX_len HLA.out)
    have X64 := hid (show W64 (eraX m2) from w64_of16 (mxL_in _ _ _ _ _))
    have EN := hid (show eraN m2 = { m2 with se := nzE m2.se 40, e := keepL m2.e (eraX m2) } from rfl)
    have KF0 := fun W => refFade_any m2.ga m2.er W
    have KG0 := fun W => refFade_any m2.pi m2.er W
    have fb := fade_range m2.ga m2.er
    have hwz : IntKind.i64.wrap (eraZ m2) = eraZ m2 := by unfold eraZ; rw [IntKind.wrap_i64]; omega
    have hq : (fade m2.ga m2.er).tdiv 4 = eraZ m2 := by unfold eraZ; exact Int.tdiv_eq_ediv_of_nonneg fb.1
    generalize eraX m2 = x at *
    generalize eraZ m2 = z at *
    generalize fade m2.ga m2.er = f at *
    generalize fade m2.pi m2.er = f2 at *
    have KF := hid KF0
    have KG := hid KG0
    clear KF0 KG0 fb
    go_region_held3 (fun w' => w'.cell? ⟨w.heap.size, 96, none⟩ = some (.int .i64 m2.ga) ∧ w'.cell? ⟨w.heap.size, 99, none⟩ = some (.int .i64 m2.er) ∧ w'.cell? ⟨w.heap.size, 100, none⟩ = some (.int .i64 m2.se)) (first | exact ⟨by assumption, by assumption, by assumption⟩ | go_keep) (first
      | (go_at_call 96; (with_reducible refine (KF.out W2.drew).mono ?_); rintro e' wA ⟨rfl, hB⟩; have MA : Ms w wA m2 := MM.out.drew.below hB; have a96 : wA.cell? ⟨w.heap.size, 96, none⟩ = some (.int .i64 m2.ga) := MA.A.cga K2.out; have a99 : wA.cell? ⟨w.heap.size, 99, none⟩ = some (.int .i64 m2.er) := MA.A.cer K2.out; have a100 : wA.cell? ⟨w.heap.size, 100, none⟩ = some (.int .i64 m2.se) := MA.A.cse K2.out; have MA := hid MA; clear hB)
      | (go_at_call 95; (with_reducible refine (KN.out wA).mono ?_); rintro e' w3 ⟨A3, c3, rfl, hO, hB⟩; have M3 : Ms w w3 m2 := MA.out.below hB; have d96 : w3.cell? ⟨w.heap.size, 96, none⟩ = some (.int .i64 m2.ga) := M3.A.cga K2.out; have d99 : w3.cell? ⟨w.heap.size, 99, none⟩ = some (.int .i64 m2.er) := M3.A.cer K2.out; have d100 : w3.cell? ⟨w.heap.size, 100, none⟩ = some (.int .i64 m2.se) := M3.A.cse K2.out; have M3 := hid M3; have O3 := hid (hO.more (base' := w.heap.size + 2) MA.out.lt); clear hO hB))
    rename_i hHeldZ
    clear hHeldZ
    clear c96 c99 c100 a96 a99 a100 d96 d99 d100 hq hwz MM KN KF MA
    have rg4 : w3.rangeAt w.heap.size 16 (ints m2.e) := M3.out.A.E K2.out
    have c98 : w3.cell? ⟨w.heap.size, 98, none⟩ = some (.int .i64 m2.la) := M3.out.A.cla K2.out
    have c97 : w3.cell? ⟨w.heap.size, 97, none⟩ = some (.int .i64 m2.pi) := M3.out.A.cpi K2.out
    have c99 : w3.cell? ⟨w.heap.size, 99, none⟩ = some (.int .i64 m2.er) := M3.out.A.cer K2.out
    have hu80 := Try.underlying34
    have hi80 : (Try.prog.info? 34).map (·.size) = some (ints m2.e).length := by rw [ints_len, K2.out.e]; exact size80k
    simp only [Exit.then]
    go_wp2_with fail
    go_region_held3 (fun w' => w'.rangeAt w.heap.size 16 (ints m2.e) ∧ w'.cell? ⟨w.heap.size, 98, none⟩ = some (.int .i64 m2.la) ∧ w'.cell? ⟨w.heap.size, 97, none⟩ = some (.int .i64 m2.pi) ∧ w'.cell? ⟨w.heap.size, 99, none⟩ = some (.int .i64 m2.er)) (first | exact ⟨by assumption, by assumption, by assumption, by assumption⟩ | go_keep) (first
      | (go_at_call 96; (with_reducible refine (KG.out w3.drew).mono ?_); rintro e' wB ⟨rfl, hB⟩; have MB1 : Ms w wB m2 := M3.out.drew.below hB; have rgB : wB.rangeAt w.heap.size 16 (ints m2.e) := MB1.A.E K2.out; have b98 : wB.cell? ⟨w.heap.size, 98, none⟩ = some (.int .i64 m2.la) := MB1.A.cla K2.out; have b97 : wB.cell? ⟨w.heap.size, 97, none⟩ = some (.int .i64 m2.pi) := MB1.A.cpi K2.out; have b99 : wB.cell? ⟨w.heap.size, 99, none⟩ = some (.int .i64 m2.er) := MB1.A.cer K2.out; have MB1 := hid MB1; have RB := hid ((O3.out.drew.below hB).reads); clear hB)
      | (go_at_call 97; (with_reducible refine (KM.out wB A3 c3 RB.out).mono ?_); rintro e' w5 ⟨A5, c5, rfl, hO, hB⟩; have M5 : Ms w w5 m2 := MB1.out.below hB; have rg5 : w5.rangeAt w.heap.size 16 (ints m2.e) := M5.A.E K2.out; have d98 : w5.cell? ⟨w.heap.size, 98, none⟩ = some (.int .i64 m2.la) := M5.A.cla K2.out; have d97 : w5.cell? ⟨w.heap.size, 97, none⟩ = some (.int .i64 m2.pi) := M5.A.cpi K2.out; have d99 : w5.cell? ⟨w.heap.size, 99, none⟩ = some (.int .i64 m2.er) := M5.A.cer K2.out; have M5 := hid M5; have O5 := hid (hO.more (base' := w.heap.size + 2) MB1.out.lt); clear hO hB))
    rename_i hHeldZ
    clear hHeldZ
    clear rg4 c98 c97 c99 rgB b98 b97 b99 rg5 d98 d97 d99 hu80 KM KG M3 O3 MB1 RB
    have c100 : w5.cell? ⟨w.heap.size, 100, none⟩ = some (.int .i64 m2.se) := M5.out.A.cse K2.out
    have f100 : w5.frozen? ⟨w.heap.size, 100, none⟩ = false := MB.frozen M5.out.A 100
    have K3 := hid (K2.out.se (nzE m2.se 40))
    have M6 := hid (M5.out.se K2.out (nzE m2.se 40))
    have O6 := hid (Own.setC (g := w.heap.size) O5.out (by omega) 100 (.int .i64 (nzE m2.se 40)))
    have KL := hid (keepL_len K2.out.e XL.out)
    have KK := hid (fun W A c (h : Rs W W.heap.size A x) => show Calls Try.prog 98 #[.agg (ints m2.e).toArray, .slice A 40 c] W (Keeps W m2.e x 40) from refKeep_any m2.e _ A c 40 W K2.out.e h XL.out (by omega) X64.out)
    have HI80 := hid hi80
    clear hi80
    obtain ⟨w6, hw6⟩ : ∃ w6, w6 = w5.setCell ⟨w.heap.size, 100, none⟩ (.int .i64 (nzE m2.se 40)) := ⟨_, rfl⟩
    rw [← hw6] at M6 O6
    have HW6 := hid hw6
    clear hw6
    simp only [Exit.then]
    go_wp2_with (first
      | (rw [← HW6.out])
      | (refine wpList_load_mid rfl 34 (.tmp 63) rfl _ _ rfl (ints m2.e) _ (M6.out.A.E K3.out) Try.underlying34 rfl HI80.out ?_))
    refine (KK.out w6 A5 c5 O6.out.reads).mono ?_
    rintro e w8 ⟨rfl, hB⟩
    have M8 := hid (M6.out.below hB)
    have O8 := hid (O6.out.below hB)
    clear hB M5 M6 O5 O6 KK c100 f100 HW6
    have hKE := hid (show keepA m2.e x 40 = keepL m2.e x from rfl)
    rw [hKE.out]
    have M7 := hid (M8.out.ex K3.out _ KL.out)
    have O7 := hid (Own.setCs (g := w.heap.size) (by omega) (ints (keepL m2.e x)) 16 _ O8.out)
    have SZ := hid (show (Try.prog.info? 34).map (·.size) = some (agi (keepL m2.e x)).size from by rw [agi_size, KL.out]; exact size80k)
    have TH := hid (show w8.there w.heap.size 16 (agi (keepL m2.e x)).size from by rw [agi_size, KL.out]; exact M8.out.A.thereE K3.out)
    have OKS := hid (show (eraN m2).ok by rw [EN.out]; exact (K3.out.ex KL.out))
    obtain ⟨w7, hw7⟩ : ∃ w7, w7 = w8.setCells w.heap.size 16 (ints (keepL m2.e x)) := ⟨_, rfl⟩
    rw [← hw7] at M7 O7
    have HW7 := hid hw7
    have T7 := hid (show Ms w w7 (eraN m2) by rw [EN.out]; exact M7.out)
    clear hw7 M7 EN
    have hRow := hid (MB.setRow T7.out.R (eraN m2))
    have FIN := hid (below_setRow T7.out.bel (g := w.heap.size + 1) (by omega) (eraN m2).ag)
    have OF := hid ((O7.out.setRow (g := w.heap.size + 1) (by omega) (eraN m2).ag).more (base' := w.heap.size) (by omega))
    go_wp2_with (first
      | (refine wpList_store_mid rfl 34 (.tmp 69) (.tmp 67) rfl w.heap.size 16 (agi (keepL m2.e x)) rfl rfl TH.out SZ.out (agi_one _) ?_; rw [show (agi (keepL m2.e x)).toList = ints (keepL m2.e x) from rfl, ← HW7.out])
      | (refine wpList_loadM rfl (.tmp 2) rfl _ (eraN m2) rfl T7.out.A OKS.out ?_)
      | (refine wpList_storeM rfl (.tmp 4) (.tmp 70) rfl _ zeroM (eraN m2) rfl rfl T7.out.R zeroM_ok OKS.out ?_))
    refine bodyPost_ret (v := _) (hR _ _ _ (eraN m2) rfl hRow.out OKS.out) rfl ?_
    rw [FR.out, FY.out, HE.out]
    exact ⟨A5, c5, by rw [XL.out]; rfl, OF.out, FIN.out⟩
  · have MM := hid (show Ms w w1 m2 by
      rw [hm2]
      unfold eraP er1
      rw [if_neg (by omega)]
      exact S1.out)
    clear hm2 h1 h2
    go_wp2_with fail
    obtain ⟨W2, hW2⟩ : ∃ W2, W2 = w1 := ⟨_, rfl⟩
    rw [← hW2] at MM ⊢
    clear hW2 a5 f5
    have c96 : W2.cell? ⟨w.heap.size, 96, none⟩ = some (.int .i64 m2.ga) := MM.out.A.cga K2.out
    have c99 : W2.cell? ⟨w.heap.size, 99, none⟩ = some (.int .i64 m2.er) := MM.out.A.cer K2.out
    have c100 : W2.cell? ⟨w.heap.size, 100, none⟩ = some (.int .i64 m2.se) := MM.out.A.cse K2.out
    have KN := hid (fun W => show Calls Try.prog 95 #[.int .i64 m2.se, .int .i64 (eraZ m2), .int .i64 40] W (NzA W m2.se (eraZ m2) 40) from refNoises_any (eraZ m2) 40 m2.se W (by omega) HSE.out.1 HSE.out.2)
    have KM := hid (fun W A c (hr : Rs W W.heap.size A (nzL m2.se (eraZ m2) 40)) => show Calls Try.prog 97 #[.agg (ints m2.e).toArray, .int .i64 m2.la, .int .i64 (fade m2.pi m2.er), .slice A 40 c] W (fun e w' => ∃ A c, e = .returned (.tuple #[.slice A 40 c, .int .i64 0]) ∧ Own w' W.heap.size A c (eraX m2) ∧ Below W.heap.size W w') from by
      refine (refMix_any m2.e _ m2.la (fade m2.pi m2.er) A c 40 W K2.out.e hr (nzL_len _ _ _) (by omega) HE64.out (w64_of16 (nzL_in _ _ _))).mono ?_
      rintro e w' ⟨A', c', h1, h2, h3⟩
      rw [(mx_good (h := m2.e) (x := nzL m2.se (eraZ m2) 40) (eraX_good HLA.out)).2] at h1
      have hl := eraX_len HLA.out
      unfold eraX at hl
      rw [hl] at h1
      exact ⟨A', c', h1, h2, h3⟩)
    have XL := hid (eraX_len HLA.out)
    have X64 := hid (show W64 (eraX m2) from w64_of16 (mxL_in _ _ _ _ _))
    have EN := hid (show eraN m2 = { m2 with se := nzE m2.se 40, e := keepL m2.e (eraX m2) } from rfl)
    have KF0 := fun W => refFade_any m2.ga m2.er W
    have KG0 := fun W => refFade_any m2.pi m2.er W
    have fb := fade_range m2.ga m2.er
    have hwz : IntKind.i64.wrap (eraZ m2) = eraZ m2 := by unfold eraZ; rw [IntKind.wrap_i64]; omega
    have hq : (fade m2.ga m2.er).tdiv 4 = eraZ m2 := by unfold eraZ; exact Int.tdiv_eq_ediv_of_nonneg fb.1
    generalize eraX m2 = x at *
    generalize eraZ m2 = z at *
    generalize fade m2.ga m2.er = f at *
    generalize fade m2.pi m2.er = f2 at *
    have KF := hid KF0
    have KG := hid KG0
    clear KF0 KG0 fb
    go_region_held3 (fun w' => w'.cell? ⟨w.heap.size, 96, none⟩ = some (.int .i64 m2.ga) ∧ w'.cell? ⟨w.heap.size, 99, none⟩ = some (.int .i64 m2.er) ∧ w'.cell? ⟨w.heap.size, 100, none⟩ = some (.int .i64 m2.se)) (first | exact ⟨by assumption, by assumption, by assumption⟩ | go_keep) (first
      | (go_at_call 96; (with_reducible refine (KF.out W2.drew).mono ?_); rintro e' wA ⟨rfl, hB⟩; have MA : Ms w wA m2 := MM.out.drew.below hB; have a96 : wA.cell? ⟨w.heap.size, 96, none⟩ = some (.int .i64 m2.ga) := MA.A.cga K2.out; have a99 : wA.cell? ⟨w.heap.size, 99, none⟩ = some (.int .i64 m2.er) := MA.A.cer K2.out; have a100 : wA.cell? ⟨w.heap.size, 100, none⟩ = some (.int .i64 m2.se) := MA.A.cse K2.out; have MA := hid MA; clear hB)
      | (go_at_call 95; (with_reducible refine (KN.out wA).mono ?_); rintro e' w3 ⟨A3, c3, rfl, hO, hB⟩; have M3 : Ms w w3 m2 := MA.out.below hB; have d96 : w3.cell? ⟨w.heap.size, 96, none⟩ = some (.int .i64 m2.ga) := M3.A.cga K2.out; have d99 : w3.cell? ⟨w.heap.size, 99, none⟩ = some (.int .i64 m2.er) := M3.A.cer K2.out; have d100 : w3.cell? ⟨w.heap.size, 100, none⟩ = some (.int .i64 m2.se) := M3.A.cse K2.out; have M3 := hid M3; have O3 := hid (hO.more (base' := w.heap.size + 2) MA.out.lt); clear hO hB))
    rename_i hHeldZ
    clear hHeldZ
    clear c96 c99 c100 a96 a99 a100 d96 d99 d100 hq hwz MM KN KF MA
    have rg4 : w3.rangeAt w.heap.size 16 (ints m2.e) := M3.out.A.E K2.out
    have c98 : w3.cell? ⟨w.heap.size, 98, none⟩ = some (.int .i64 m2.la) := M3.out.A.cla K2.out
    have c97 : w3.cell? ⟨w.heap.size, 97, none⟩ = some (.int .i64 m2.pi) := M3.out.A.cpi K2.out
    have c99 : w3.cell? ⟨w.heap.size, 99, none⟩ = some (.int .i64 m2.er) := M3.out.A.cer K2.out
    have hu80 := Try.underlying34
    have hi80 : (Try.prog.info? 34).map (·.size) = some (ints m2.e).length := by rw [ints_len, K2.out.e]; exact size80k
    simp only [Exit.then]
    go_wp2_with fail
    go_region_held3 (fun w' => w'.rangeAt w.heap.size 16 (ints m2.e) ∧ w'.cell? ⟨w.heap.size, 98, none⟩ = some (.int .i64 m2.la) ∧ w'.cell? ⟨w.heap.size, 97, none⟩ = some (.int .i64 m2.pi) ∧ w'.cell? ⟨w.heap.size, 99, none⟩ = some (.int .i64 m2.er)) (first | exact ⟨by assumption, by assumption, by assumption, by assumption⟩ | go_keep) (first
      | (go_at_call 96; (with_reducible refine (KG.out w3.drew).mono ?_); rintro e' wB ⟨rfl, hB⟩; have MB1 : Ms w wB m2 := M3.out.drew.below hB; have rgB : wB.rangeAt w.heap.size 16 (ints m2.e) := MB1.A.E K2.out; have b98 : wB.cell? ⟨w.heap.size, 98, none⟩ = some (.int .i64 m2.la) := MB1.A.cla K2.out; have b97 : wB.cell? ⟨w.heap.size, 97, none⟩ = some (.int .i64 m2.pi) := MB1.A.cpi K2.out; have b99 : wB.cell? ⟨w.heap.size, 99, none⟩ = some (.int .i64 m2.er) := MB1.A.cer K2.out; have MB1 := hid MB1; have RB := hid ((O3.out.drew.below hB).reads); clear hB)
      | (go_at_call 97; (with_reducible refine (KM.out wB A3 c3 RB.out).mono ?_); rintro e' w5 ⟨A5, c5, rfl, hO, hB⟩; have M5 : Ms w w5 m2 := MB1.out.below hB; have rg5 : w5.rangeAt w.heap.size 16 (ints m2.e) := M5.A.E K2.out; have d98 : w5.cell? ⟨w.heap.size, 98, none⟩ = some (.int .i64 m2.la) := M5.A.cla K2.out; have d97 : w5.cell? ⟨w.heap.size, 97, none⟩ = some (.int .i64 m2.pi) := M5.A.cpi K2.out; have d99 : w5.cell? ⟨w.heap.size, 99, none⟩ = some (.int .i64 m2.er) := M5.A.cer K2.out; have M5 := hid M5; have O5 := hid (hO.more (base' := w.heap.size + 2) MB1.out.lt); clear hO hB))
    rename_i hHeldZ
    clear hHeldZ
    clear rg4 c98 c97 c99 rgB b98 b97 b99 rg5 d98 d97 d99 hu80 KM KG M3 O3 MB1 RB
    have c100 : w5.cell? ⟨w.heap.size, 100, none⟩ = some (.int .i64 m2.se) := M5.out.A.cse K2.out
    have f100 : w5.frozen? ⟨w.heap.size, 100, none⟩ = false := MB.frozen M5.out.A 100
    have K3 := hid (K2.out.se (nzE m2.se 40))
    have M6 := hid (M5.out.se K2.out (nzE m2.se 40))
    have O6 := hid (Own.setC (g := w.heap.size) O5.out (by omega) 100 (.int .i64 (nzE m2.se 40)))
    have KL := hid (keepL_len K2.out.e XL.out)
    have KK := hid (fun W A c (h : Rs W W.heap.size A x) => show Calls Try.prog 98 #[.agg (ints m2.e).toArray, .slice A 40 c] W (Keeps W m2.e x 40) from refKeep_any m2.e _ A c 40 W K2.out.e h XL.out (by omega) X64.out)
    have HI80 := hid hi80
    clear hi80
    obtain ⟨w6, hw6⟩ : ∃ w6, w6 = w5.setCell ⟨w.heap.size, 100, none⟩ (.int .i64 (nzE m2.se 40)) := ⟨_, rfl⟩
    rw [← hw6] at M6 O6
    have HW6 := hid hw6
    clear hw6
    simp only [Exit.then]
    go_wp2_with (first
      | (rw [← HW6.out])
      | (refine wpList_load_mid rfl 34 (.tmp 63) rfl _ _ rfl (ints m2.e) _ (M6.out.A.E K3.out) Try.underlying34 rfl HI80.out ?_))
    refine (KK.out w6 A5 c5 O6.out.reads).mono ?_
    rintro e w8 ⟨rfl, hB⟩
    have M8 := hid (M6.out.below hB)
    have O8 := hid (O6.out.below hB)
    clear hB M5 M6 O5 O6 KK c100 f100 HW6
    have hKE := hid (show keepA m2.e x 40 = keepL m2.e x from rfl)
    rw [hKE.out]
    have M7 := hid (M8.out.ex K3.out _ KL.out)
    have O7 := hid (Own.setCs (g := w.heap.size) (by omega) (ints (keepL m2.e x)) 16 _ O8.out)
    have SZ := hid (show (Try.prog.info? 34).map (·.size) = some (agi (keepL m2.e x)).size from by rw [agi_size, KL.out]; exact size80k)
    have TH := hid (show w8.there w.heap.size 16 (agi (keepL m2.e x)).size from by rw [agi_size, KL.out]; exact M8.out.A.thereE K3.out)
    have OKS := hid (show (eraN m2).ok by rw [EN.out]; exact (K3.out.ex KL.out))
    obtain ⟨w7, hw7⟩ : ∃ w7, w7 = w8.setCells w.heap.size 16 (ints (keepL m2.e x)) := ⟨_, rfl⟩
    rw [← hw7] at M7 O7
    have HW7 := hid hw7
    have T7 := hid (show Ms w w7 (eraN m2) by rw [EN.out]; exact M7.out)
    clear hw7 M7 EN
    have hRow := hid (MB.setRow T7.out.R (eraN m2))
    have FIN := hid (below_setRow T7.out.bel (g := w.heap.size + 1) (by omega) (eraN m2).ag)
    have OF := hid ((O7.out.setRow (g := w.heap.size + 1) (by omega) (eraN m2).ag).more (base' := w.heap.size) (by omega))
    go_wp2_with (first
      | (refine wpList_store_mid rfl 34 (.tmp 69) (.tmp 67) rfl w.heap.size 16 (agi (keepL m2.e x)) rfl rfl TH.out SZ.out (agi_one _) ?_; rw [show (agi (keepL m2.e x)).toList = ints (keepL m2.e x) from rfl, ← HW7.out])
      | (refine wpList_loadM rfl (.tmp 2) rfl _ (eraN m2) rfl T7.out.A OKS.out ?_)
      | (refine wpList_storeM rfl (.tmp 4) (.tmp 70) rfl _ zeroM (eraN m2) rfl rfl T7.out.R zeroM_ok OKS.out ?_))
    refine bodyPost_ret (v := _) (hR _ _ _ (eraN m2) rfl hRow.out OKS.out) rfl ?_
    rw [FR.out, FY.out, HE.out]
    exact ⟨A5, c5, by rw [XL.out]; rfl, OF.out, FIN.out⟩
end Go.Proofs.Ytcfmipobgljbeaa

/- The walk of the reference's newest. -/
namespace Go.Proofs.Ytcfmipobgljbeaa
set_option linter.unusedVariables false
set_option linter.unusedSimpArgs false
set_option maxRecDepth 100000
open Go.RowKit

/-- The two boxes and the row that is filled: the past, the answer's, the row. -/
structure Nx (w wr : World) (p ys : List Int) : Prop where
  A : IB wr w.heap.size 42 p
  R : IB wr (w.heap.size + 1) 42 Z8
  O : IB wr (w.heap.size + 2) 42 ys
  bel : Below w.heap.size w wr
theorem Nx.start (w : World) (p : List Int) : Nx w (((w.alloc (.cells (agi p) 42)).alloc (.cells (agi Z8) 42)).alloc (.cells (agi Z8) 42)) p Z8 := by
  have h1 := IB.new w 42 p
  have h2 := IB.new (w.alloc (.cells (agi p) 42)) 42 Z8
  have h3 := IB.new ((w.alloc (.cells (agi p) 42)).alloc (.cells (agi Z8) 42)) 42 Z8
  simp only [World.size_alloc] at h2 h3
  exact ⟨Blk.alloc (Blk.alloc h1 _) _, Blk.alloc h2 _, h3, ((((Below.refl _ _).alloc (Nat.le_refl _) _).alloc (by simp) _).alloc (by simp; omega) _)⟩
theorem Nx.set_ {w wr : World} {p ys : List Int} (h : Nx w wr p ys) (k : Nat) (x : Int) : Nx w (wr.setCell ⟨w.heap.size + 2, k, none⟩ (.int .i64 x)) p (ys.set k x) :=
  ⟨Blk.far h.A (by show w.heap.size ≠ w.heap.size + 2; omega) _, Blk.far h.R (by show w.heap.size + 1 ≠ w.heap.size + 2; omega) _, IB.set_ h.O k x, h.bel.setCell (p := ⟨w.heap.size + 2, k, none⟩) (by show w.heap.size ≤ w.heap.size + 2; omega) _⟩
theorem Nx.drew {w wr : World} {p ys : List Int} (h : Nx w wr p ys) : Nx w wr.drew p ys := ⟨h.A, h.R, h.O, h.bel.drew⟩

set_option maxHeartbeats 4000000 in
theorem newest_any (p l : List Int) (A : Option Addr) (c n B : Nat) (w : World) (hp : p.length = 8) (hr : Rs w w.heap.size A l) (hn : l.length = n) (hl : n ≤ 17592186044416) :
    Calls Try.prog 101 #[.agg (agi p), .slice A n c] w fun e w' => e = .returned (.agg (agi (newL p l))) ∧ Below w.heap.size w w' := by
  have hR := results_row1 (fn := Try.f101) (p := 4) (ty := 42) rfl
  have S0 := Nx.start w p
  rw [z8_eq] at S0
  have S0 := hid S0
  have HP := hid hp
  have HN := hid hn
  have HR := hid hr
  have FL := hid (newL_range (l := l) hp)
  clear hp hn hr
  go_enter Try.func101, Try.ntmps101
  go_wp2
  go_loopw [7] (fun iv wr => ∃ (k : Nat) (ys : List Int), k ≤ 8 ∧ iv = .int .i64 k ∧ Hid (ys.length = 8 ∧ ∀ j, j < k → ys.getD j 0 = newAt p l j) ∧ Hid (Nx w wr p ys)) (fun iv _ => 8 - (intOf iv).toNat)
  case atStart => exact ⟨0, Z8, by omega, rfl, hid ⟨rfl, fun j h => by omega⟩, S0⟩
  case round =>
    clear S0
    obtain ⟨k, ys, hk, rfl, HY, HS⟩ := hrel
    have f0 := fun i => Blk.frozen HS.out.O i
    by_cases hlt : k < 8
    · have NEXT := fun x (hx : x = newAt p l k) => hid (show (ys.set k x).length = 8 ∧ ∀ j, j < k + 1 → (ys.set k x).getD j 0 = newAt p l j from by
        obtain ⟨y1, y2⟩ := HY.out
        refine ⟨by simpa using y1, fun j hj => ?_⟩
        by_cases he : k = j
        · subst he
          rw [get_set_same _ _ _ (by omega), hx]
        · rw [get_set_other _ _ he]
          exact y2 j (by omega))
      have cy := IB.cell HS.out.O k (by rw [HY.out.1]; omega)
      have fy := f0 k
      clear f0
      by_cases hin : k < n
      · obtain ⟨d, hd⟩ : ∃ d : Nat, n = k + 1 + d := ⟨n - (k + 1), by omega⟩
        obtain ⟨ad, rfl, _, c1⟩ := (HR.out.below HS.out.bel).at_ (k := d) (by rw [HN.out]; omega)
        have HX := NEXT (l.getD d 0) (by unfold newAt; rw [if_pos (by rw [HN.out]; exact hin), HN.out]; congr 1; omega)
        have SX := hid (HS.out.set_ k (l.getD d 0))
        have SD := hid (SX.out.drew)
        have hw1 : IntKind.i64.wrap ((n : Int) - 1) = (n : Int) - 1 := by rw [IntKind.wrap_i64]; omega
        have hw2 : IntKind.i64.wrap ((n : Int) - 1 - (k : Int)) = (d : Nat) := by rw [IntKind.wrap_i64]; omega
        generalize l.getD d 0 = x at *
        have hdi : (d : Int) < n := by omega
        have HD := hid hd
        clear hd NEXT
        go_wp2
        go_roundw
        case rel => exact ⟨k + 1, _, by omega, by go_num, HX, SX⟩
        case measure => simp [intOf] <;> omega
      · obtain ⟨d, hd⟩ : ∃ d : Nat, k = n + d := ⟨k - n, by omega⟩
        have c1 := IB.cell HS.out.A d (by rw [HP.out]; omega)
        have HX := NEXT (p.getD d 0) (by unfold newAt; rw [if_neg (by rw [HN.out]; exact hin), HN.out]; congr 1; omega)
        have SX := hid (HS.out.set_ k (p.getD d 0))
        have hw2 : IntKind.i64.wrap ((k : Int) - (n : Int)) = (d : Nat) := by rw [IntKind.wrap_i64]; omega
        generalize p.getD d 0 = x at *
        have hdi : (d : Int) < 8 := by omega
        have hd8 : d < 8 := by omega
        have HD := hid hd
        clear hd NEXT
        go_wp2
        go_roundw
        case rel => exact ⟨k + 1, _, by omega, by go_num, HX, SX⟩
        case measure => simp [intOf] <;> omega
    · obtain rfl : k = 8 := by omega
      have YE := hid (show ys = newL p l from by
        rw [FL.out]
        obtain ⟨y1, y2⟩ := HY.out
        exact list_ext (by rw [y1]; simp) fun j hj => by rw [y2 j (by omega)]; simp [show j < 8 by omega])
      have LY := hid HY.out.1
      clear hlt f0
      have hRow := hid (IB.setRow HS.out.R ys)
      have FIN := hid (below_setRow HS.out.bel (g := w.heap.size + 1) (by omega) (agi ys))
      go_wp2_with (first
        | (refine wpList_loadI rfl 42 (.tmp 5) rfl _ 42 ys 8 _ rfl HS.out.O Try.underlying42 rfl size8 LY.out ?_)
        | (refine wpList_storeI rfl 42 (.tmp 4) (.tmp 33) rfl _ 42 Z8 ys 8 rfl rfl HS.out.R size8 rfl LY.out ?_))
      refine bodyPost_ret (v := _) (hR _ _ _ 42 ys _ 8 rfl hRow.out Try.underlying42 rfl size8 LY.out) rfl ?_
      exact ⟨by rw [YE.out], FIN.out⟩
end Go.Proofs.Ytcfmipobgljbeaa

/- The walks of the reference's rightFilter, newest and guess. -/
namespace Go.Proofs.Ytcfmipobgljbeaa
set_option linter.unusedVariables false
set_option linter.unusedSimpArgs false
set_option maxRecDepth 100000
open Go.RowKit

/-- A block of numbers, read as a slice. -/
theorem rs_block {w : World} {g B : Nat} {t : TypeId} {xs : List Int} (h : IB w g t xs) (hg : g < B) : Rs w B (some ⟨g, 0, none⟩) xs :=
  ⟨by simp [ints], fun _ => ⟨_, rfl, hg, fun j u hu => by
    have hj : j < xs.length := by
      have := (List.getElem?_eq_some_iff.mp hu).1
      rwa [ints_len] at this
    rw [ints_get xs j hj] at hu
    rw [add_zero', ← hu]
    exact IB.cell h j hj⟩⟩

set_option maxHeartbeats 4000000 in
theorem rightFilter_any (a p l : List Int) (A : Option Addr) (c n B : Nat) (w : World) (ha : a.length = 9) (hp : p.length = 8) (hr : Rs w w.heap.size A l) (hn : l.length = n) (hl : n ≤ 17592186044416) :
    Calls Try.prog 99 #[.agg (agi a), .agg (agi p), .slice A n c] w (AnsB w (goodF a p l)) := by
  have hI := hid (IB.new w 23 a)
  have hJ := IB.new (w.alloc (.cells (agi a) 23)) 42 p
  simp only [World.size_alloc] at hJ
  have hRP := hid (show Rs ((w.alloc (.cells (agi a) 23)).alloc (.cells (agi p) 42)) (w.heap.size + 1 + 1) (some ⟨w.heap.size + 1, 0, none⟩) p from rs_block hJ (by omega))
  have hI := hid (Blk.alloc hI.out (.cells (agi p) 42))
  have HA := hid ha
  have HP := hid hp
  have HN := hid hn
  have HR := hid (hr.below (((Below.refl _ w).alloc (Nat.le_refl _) (.cells (agi a) 23)).alloc (by simp) (.cells (agi p) 42)))
  have HB := hid (((Below.refl _ w).alloc (Nat.le_refl _) (.cells (agi a) 23)).alloc (by simp) (.cells (agi p) 42))
  have hix := fun (k : Nat) (hk : k < 9) (w : World) => run_index_agi Try.underlying23 a ha k hk w
  have HIX := hid hix
  have K1 := hid (fun W (h : Rs W (w.heap.size + 1 + 1) (some ⟨w.heap.size + 1, 0, none⟩) p) => Right_any (some ⟨w.heap.size + 1, 0, none⟩) 8 8 (w.heap.size + 1 + 1) p W h hp (by omega))
  have K2 := hid (fun W (h : Rs W w.heap.size A l) => Right_any A c n w.heap.size l W h hn hl)
  clear ha hp hn hr hix hJ
  have c0 := IB.cell hI.out 0 (by rw [HA.out]; omega)
  obtain ⟨a0, ha0⟩ : ∃ a0, a0 = a.getD 0 0 := ⟨_, rfl⟩
  rw [← ha0] at c0
  have HA0 := hid ha0
  have C0 := hid c0
  clear ha0 c0
  go_enter Try.func99, Try.ntmps99
  go_wp2_with (refine wpList_loadI rfl 23 (.tmp 3) rfl _ 23 a 9 _ rfl hI.out Try.underlying23 rfl size9 HA.out ?_)
  go_loop [10] (fun iv => ∃ k : Nat, k ≤ 9 ∧ iv = .int .i64 k ∧ Hid (allTo okP1 a k)) (fun iv => 9 - (intOf iv).toNat)
  case atStart => exact ⟨0, by omega, rfl, hid allTo.zero⟩
  case round =>
    obtain ⟨k, hk, rfl, HY⟩ := hrel
    by_cases hlt : k < 9
    · have hix := HIX.out k hlt
      obtain ⟨x, hx⟩ : ∃ x, x = a.getD k 0 := ⟨_, rfl⟩
      rw [← hx] at hix
      have HX := hid hx
      clear hx
      by_cases b1 : x < -1048576
      · have HF := hid (show okP a = false from all_no (i := k) (by rw [HA.out]; exact hlt) (okP1_no (by rw [← HX.out]; exact .inl b1)))
        go_wp2
        go_ret
        exact ⟨by unfold goodF; rw [HF.out]; rfl, HB.out⟩
      by_cases b2 : 1048576 < x
      · have HF := hid (show okP a = false from all_no (i := k) (by rw [HA.out]; exact hlt) (okP1_no (by rw [← HX.out]; exact .inr b2)))
        go_wp2
        go_ret
        exact ⟨by unfold goodF; rw [HF.out]; rfl, HB.out⟩
      have HN2 := hid (HY.out.succ (by rw [← HX.out]; exact okP1_yes (by omega) (by omega)))
      go_wp2
      go_round
      case rel => exact ⟨k + 1, by omega, by go_num, HN2⟩
      case measure => simp [intOf] <;> omega
    · obtain rfl : k = 9 := by omega
      have HF9 := hid (show okP a = true from HY.out.all (by rw [HA.out]; exact Nat.le_refl _))
      clear hlt HY
      have c0 := C0.out
      by_cases h0 : a0 = 4096
      · have HA1 := hid (show a.getD 0 0 = 4096 by rw [← HA0.out, h0])
        obtain ⟨b2, hb2⟩ : ∃ b2, b2 = all16 p := ⟨_, rfl⟩
        have K1' := hid (K1.out _ hRP.out)
        rw [← hb2] at K1'
        cases b2 with
        | false =>
          have HB2 := hid hb2
          clear hb2
          go_wp2_with (go_at_call 28; (with_reducible refine K1'.out.mono ?_); rintro e w' ⟨rfl, rfl⟩)
          go_ret
          exact ⟨by unfold goodF; rw [HF9.out, HA1.out, ← HB2.out]; rfl, HB.out⟩
        | true =>
          have HB2 := hid hb2
          clear hb2
          go_wp2_with (first
            | (go_at_call 28; (with_reducible refine K1'.out.mono ?_); rintro e w' ⟨rfl, rfl⟩)
            | (go_at_call 28; (with_reducible refine (K2.out _ HR.out).mono ?_); rintro e w' ⟨rfl, rfl⟩))
          go_ret
          exact ⟨by unfold goodF; rw [HF9.out, HA1.out, ← HB2.out]; simp, HB.out⟩
      · have HA1 := hid (show decide (a.getD 0 0 = 4096) = false by rw [← HA0.out]; simpa using h0)
        go_wp2
        go_ret
        exact ⟨by unfold goodF; rw [HF9.out, HA1.out]; rfl, HB.out⟩
end Go.Proofs.Ytcfmipobgljbeaa

/- The walk of the reference's guess. -/
namespace Go.Proofs.Ytcfmipobgljbeaa
set_option linter.unusedVariables false
set_option linter.unusedSimpArgs false
set_option maxRecDepth 100000
open Go.RowKit

theorem agi8 (q0 q1 q2 q3 q4 q5 q6 q7 : Int) : agi [q0, q1, q2, q3, q4, q5, q6, q7] = #[.int .i64 q0, .int .i64 q1, .int .i64 q2, .int .i64 q3, .int .i64 q4, .int .i64 q5, .int .i64 q6, .int .i64 q7] := rfl

set_option maxHeartbeats 4000000 in
theorem refguess_any (a p l : List Int) (A : Option Addr) (c n m : Nat) (w : World) (ha : a.length = 9) (hp : p.length = 8) (oa : okP a = true) (op : all16 p = true) (ol : all16 l = true) (hr : Rs w w.heap.size A l) (hn : l.length = n) (hl : n ≤ 17592186044416) (hm : m ≤ n) (hc : n ≤ c) :
    Calls Try.prog 100 #[.agg (agi a), .agg (agi p), .slice A n c, .int .i64 m] w fun e w' => e = .returned (.int .i64 (guessL a (newL p (l.take m)))) ∧ Below w.heap.size w w' := by
  obtain ⟨p0, p1, p2, p3, p4, p5, p6, p7, rfl⟩ := list8 hp
  obtain ⟨ys, hy⟩ : ∃ ys, ys = newL [p0, p1, p2, p3, p4, p5, p6, p7] (l.take m) := ⟨_, rfl⟩
  have hyl : ys.length = 8 := by rw [hy]; exact newL_len _ _ rfl
  have h16 : all16 ys = true := by rw [hy]; exact newL_all _ _ op (all16_take ol m)
  have KN := fun (W : World) (hW : Rs W W.heap.size A (l.take m)) => newest_any [p0, p1, p2, p3, p4, p5, p6, p7] (l.take m) A c m 0 W rfl hW (by simp; omega) (by omega)
  rw [← hy] at KN ⊢
  obtain ⟨y0, y1, y2, y3, y4, y5, y6, y7, rfl⟩ := list8 hyl
  rw [agi8, agi8] at KN
  have KN := hid KN
  have hI := IB.new w 23 a
  have hJ := IB.new (w.alloc (.cells (agi a) 23)) 42 [p0, p1, p2, p3, p4, p5, p6, p7]
  simp only [World.size_alloc] at hJ
  have hI := Blk.alloc hI (.cells (agi [p0, p1, p2, p3, p4, p5, p6, p7]) 42)
  have hB := (((Below.refl _ w).alloc (Nat.le_refl _) (.cells (agi a) 23)).alloc (by simp) (.cells (agi [p0, p1, p2, p3, p4, p5, p6, p7]) 42))
  have hs : ((w.alloc (.cells (agi a) 23)).alloc (.cells (agi [p0, p1, p2, p3, p4, p5, p6, p7]) 42)).heap.size = w.heap.size + 1 + 1 := by simp
  have hr1 := hr.below hB
  have HA := hid ha
  have OA := hid oa
  have HY := hid hy
  have H16 := hid h16
  rw [agi8] at hI hJ hB hs hr1
  generalize hW : (w.alloc (.cells (agi a) 23)).alloc (.cells #[.int .i64 p0, .int .i64 p1, .int .i64 p2, .int .i64 p3, .int .i64 p4, .int .i64 p5, .int .i64 p6, .int .i64 p7] 42) = W at hI hJ hB hs hr1
  have c0 : W.cell? ⟨w.heap.size + 1, 0, none⟩ = some (.int .i64 p0) := IB.cell hJ 0 (by simp)
  have c1 : W.cell? ⟨w.heap.size + 1, 1, none⟩ = some (.int .i64 p1) := IB.cell hJ 1 (by simp)
  have c2 : W.cell? ⟨w.heap.size + 1, 2, none⟩ = some (.int .i64 p2) := IB.cell hJ 2 (by simp)
  have c3 : W.cell? ⟨w.heap.size + 1, 3, none⟩ = some (.int .i64 p3) := IB.cell hJ 3 (by simp)
  have c4 : W.cell? ⟨w.heap.size + 1, 4, none⟩ = some (.int .i64 p4) := IB.cell hJ 4 (by simp)
  have c5 : W.cell? ⟨w.heap.size + 1, 5, none⟩ = some (.int .i64 p5) := IB.cell hJ 5 (by simp)
  have c6 : W.cell? ⟨w.heap.size + 1, 6, none⟩ = some (.int .i64 p6) := IB.cell hJ 6 (by simp)
  have c7 : W.cell? ⟨w.heap.size + 1, 7, none⟩ = some (.int .i64 p7) := IB.cell hJ 7 (by simp)
  have HR2 := hid (fun W2 (hb : Below W.heap.size W W2) => (((hr1.take (k := m) (by omega)).below (hb.mono (by omega))).more (show w.heap.size ≤ W2.heap.size from by have := hb.size; omega)))
  have hm1 : (m : Int) ≤ c := by omega
  have hm0 : (0 : Int) ≤ m := by omega
  have hmc : m ≤ c := by omega
  have HI := hid hI
  have HB := hid hB
  have HW := hid hW
  have HS := hid hs
  clear hy hyl h16 hI hJ hB hr1 hs oa op ol ha hr hn
  go_enter Try.func100, Try.ntmps100
  go_wp2
  rw [agi8, hW]
  clear hW
  have HRZ := hid (HR2.out (W.alloc (.cells (agi Z8) 42)).drew (Below.drew ((Below.refl _ _).alloc (Nat.le_refl _) _)))
  have KZ := hid (KN.out (W.alloc (.cells (agi Z8) 42)).drew HRZ.out)
  rw [z8_eq] at KZ
  have hltJ : w.heap.size + 1 < W.heap.size := by have := HS.out; omega
  have hne1 : ¬ W.heap.size = w.heap.size + 1 := by omega
  have hne2 : ¬ w.heap.size + 1 = W.heap.size := by omega
  go_region_held3 (fun w' => w'.cell? ⟨w.heap.size + 1, 0, none⟩ = some (.int .i64 p0) ∧ w'.cell? ⟨w.heap.size + 1, 1, none⟩ = some (.int .i64 p1) ∧ w'.cell? ⟨w.heap.size + 1, 2, none⟩ = some (.int .i64 p2) ∧ w'.cell? ⟨w.heap.size + 1, 3, none⟩ = some (.int .i64 p3) ∧ w'.cell? ⟨w.heap.size + 1, 4, none⟩ = some (.int .i64 p4) ∧ w'.cell? ⟨w.heap.size + 1, 5, none⟩ = some (.int .i64 p5) ∧ w'.cell? ⟨w.heap.size + 1, 6, none⟩ = some (.int .i64 p6) ∧ w'.cell? ⟨w.heap.size + 1, 7, none⟩ = some (.int .i64 p7)) (go_keep) (first
    | (go_at_call 101; (with_reducible refine (KN.out W.drew (HR2.out _ (Below.drew (Below.refl _ _)))).mono ?_); rintro e w2 ⟨rfl, hB⟩; have HB2 := hid hB; clear hB; have hz2 : W.heap.size ≤ w2.heap.size := HB2.out.size; have n1 : ¬ w2.heap.size = w.heap.size + 1 := (by omega); have n2 : ¬ w.heap.size + 1 = w2.heap.size := (by omega); have k0 := (HB2.out.cell (p := ⟨w.heap.size + 1, 0, none⟩) (show w.heap.size + 1 < W.drew.heap.size from hltJ)).trans c0; have k1 := (HB2.out.cell (p := ⟨w.heap.size + 1, 1, none⟩) (show w.heap.size + 1 < W.drew.heap.size from hltJ)).trans c1; have k2 := (HB2.out.cell (p := ⟨w.heap.size + 1, 2, none⟩) (show w.heap.size + 1 < W.drew.heap.size from hltJ)).trans c2; have k3 := (HB2.out.cell (p := ⟨w.heap.size + 1, 3, none⟩) (show w.heap.size + 1 < W.drew.heap.size from hltJ)).trans c3; have k4 := (HB2.out.cell (p := ⟨w.heap.size + 1, 4, none⟩) (show w.heap.size + 1 < W.drew.heap.size from hltJ)).trans c4; have k5 := (HB2.out.cell (p := ⟨w.heap.size + 1, 5, none⟩) (show w.heap.size + 1 < W.drew.heap.size from hltJ)).trans c5; have k6 := (HB2.out.cell (p := ⟨w.heap.size + 1, 6, none⟩) (show w.heap.size + 1 < W.drew.heap.size from hltJ)).trans c6; have k7 := (HB2.out.cell (p := ⟨w.heap.size + 1, 7, none⟩) (show w.heap.size + 1 < W.drew.heap.size from hltJ)).trans c7)
    | (go_at_call 101; (with_reducible refine KZ.out.mono ?_); rintro e w2 ⟨rfl, hB⟩; have b9 : IB w2 W.heap.size 42 Z8 := Blk.below' (Blk.drew (IB.new W 42 Z8)) hB; have z0 : w2.cell? ⟨W.heap.size, 0, none⟩ = some (.int .i64 0) := IB.cell b9 0 (by decide); have g0 : w2.frozen? ⟨W.heap.size, 0, none⟩ = false := Blk.frozen b9 0; have z1 : w2.cell? ⟨W.heap.size, 1, none⟩ = some (.int .i64 0) := IB.cell b9 1 (by decide); have g1 : w2.frozen? ⟨W.heap.size, 1, none⟩ = false := Blk.frozen b9 1; have z2 : w2.cell? ⟨W.heap.size, 2, none⟩ = some (.int .i64 0) := IB.cell b9 2 (by decide); have g2 : w2.frozen? ⟨W.heap.size, 2, none⟩ = false := Blk.frozen b9 2; have z3 : w2.cell? ⟨W.heap.size, 3, none⟩ = some (.int .i64 0) := IB.cell b9 3 (by decide); have g3 : w2.frozen? ⟨W.heap.size, 3, none⟩ = false := Blk.frozen b9 3; have z4 : w2.cell? ⟨W.heap.size, 4, none⟩ = some (.int .i64 0) := IB.cell b9 4 (by decide); have g4 : w2.frozen? ⟨W.heap.size, 4, none⟩ = false := Blk.frozen b9 4; have z5 : w2.cell? ⟨W.heap.size, 5, none⟩ = some (.int .i64 0) := IB.cell b9 5 (by decide); have g5 : w2.frozen? ⟨W.heap.size, 5, none⟩ = false := Blk.frozen b9 5; have z6 : w2.cell? ⟨W.heap.size, 6, none⟩ = some (.int .i64 0) := IB.cell b9 6 (by decide); have g6 : w2.frozen? ⟨W.heap.size, 6, none⟩ = false := Blk.frozen b9 6; have z7 : w2.cell? ⟨W.heap.size, 7, none⟩ = some (.int .i64 0) := IB.cell b9 7 (by decide); have g7 : w2.frozen? ⟨W.heap.size, 7, none⟩ = false := Blk.frozen b9 7; have HB2 := hid hB; have B9 := hid b9; clear hB b9; have k0 := (HB2.out.cell (p := ⟨w.heap.size + 1, 0, none⟩) (by simp; omega)).trans (((Below.refl _ W).alloc (Nat.le_refl _) _).cell (p := ⟨w.heap.size + 1, 0, none⟩) hltJ |>.trans c0); have k1 := (HB2.out.cell (p := ⟨w.heap.size + 1, 1, none⟩) (by simp; omega)).trans (((Below.refl _ W).alloc (Nat.le_refl _) _).cell (p := ⟨w.heap.size + 1, 1, none⟩) hltJ |>.trans c1); have k2 := (HB2.out.cell (p := ⟨w.heap.size + 1, 2, none⟩) (by simp; omega)).trans (((Below.refl _ W).alloc (Nat.le_refl _) _).cell (p := ⟨w.heap.size + 1, 2, none⟩) hltJ |>.trans c2); have k3 := (HB2.out.cell (p := ⟨w.heap.size + 1, 3, none⟩) (by simp; omega)).trans (((Below.refl _ W).alloc (Nat.le_refl _) _).cell (p := ⟨w.heap.size + 1, 3, none⟩) hltJ |>.trans c3); have k4 := (HB2.out.cell (p := ⟨w.heap.size + 1, 4, none⟩) (by simp; omega)).trans (((Below.refl _ W).alloc (Nat.le_refl _) _).cell (p := ⟨w.heap.size + 1, 4, none⟩) hltJ |>.trans c4); have k5 := (HB2.out.cell (p := ⟨w.heap.size + 1, 5, none⟩) (by simp; omega)).trans (((Below.refl _ W).alloc (Nat.le_refl _) _).cell (p := ⟨w.heap.size + 1, 5, none⟩) hltJ |>.trans c5); have k6 := (HB2.out.cell (p := ⟨w.heap.size + 1, 6, none⟩) (by simp; omega)).trans (((Below.refl _ W).alloc (Nat.le_refl _) _).cell (p := ⟨w.heap.size + 1, 6, none⟩) hltJ |>.trans c6); have k7 := (HB2.out.cell (p := ⟨w.heap.size + 1, 7, none⟩) (by simp; omega)).trans (((Below.refl _ W).alloc (Nat.le_refl _) _).cell (p := ⟨w.heap.size + 1, 7, none⟩) hltJ |>.trans c7)))
  · have IA := Blk.alloc (Blk.below' (Blk.drew HI.out) HB2.out) (.cells (agi [y0, y1, y2, y3, y4, y5, y6, y7]) 42)
    have IY := IB.new w2 42 [y0, y1, y2, y3, y4, y5, y6, y7]
    have IL := ((HB.out.drew).trans (HB2.out.mono (show w.heap.size ≤ W.drew.heap.size from (show w.heap.size ≤ W.heap.size by omega)))).alloc (show w.heap.size ≤ w2.heap.size by omega) (.cells (agi [y0, y1, y2, y3, y4, y5, y6, y7]) 42)
    rw [agi8] at IA IL
    generalize hV : World.alloc w2 _ = V
    rw [hV] at IA IL
    have IY2 : IB V w2.heap.size 42 [y0, y1, y2, y3, y4, y5, y6, y7] := by rw [← hV]; exact IY
    generalize w2.heap.size = g9 at *
    have IA := hid IA
    have IY := hid IY2
    have IL := hid IL
    clear IY2 c0 k0 c1 k1 c2 k2 c3 k3 c4 k4 c5 k5 c6 k6 c7 k7
    go_wp2
    go_loopw [10, 11] (fun sv iv wr => ∃ (k : Nat) (s : Int), k ≤ 8 ∧ iv = .int .i64 ((k + 1 : Nat) : Int) ∧ sv = .int .i64 s ∧ Hid (s = 2048 + sumN (gterm a [y0, y1, y2, y3, y4, y5, y6, y7]) k) ∧ Hid (Blk wr w.heap.size 23 (agi a)) ∧ Hid (IB wr g9 42 [y0, y1, y2, y3, y4, y5, y6, y7]) ∧ Hid (Below w.heap.size w wr)) (fun _ iv _ => 9 - (intOf iv).toNat)
    case atStart => exact ⟨0, 2048, by omega, rfl, rfl, hid rfl, IA, IY, IL⟩
    case round =>
      clear IA IY IL
      obtain ⟨k, s, hk, rfl, rfl, HSM, IA, IY, IL⟩ := hrel
      by_cases hlt : k < 8
      · have ca := IB.cell IA.out (k + 1) (by rw [HA.out]; omega)
        have cy := IB.cell IY.out k (by simpa using hlt)
        have tb := gterm_bound OA.out H16.out k
        have sb := gsum_bound OA.out H16.out k
        have HT := hid (show 2048 + sumN (gterm a [y0, y1, y2, y3, y4, y5, y6, y7]) (k + 1) = s + gterm a [y0, y1, y2, y3, y4, y5, y6, y7] k by rw [HSM.out]; simp only [sumN]; omega)
        have hs := HSM.out
        have s1 : -300000000000 ≤ s := by omega
        have s2 : s ≤ 300000000000 := by omega
        clear hs sb HSM
        obtain ⟨t, ht⟩ : ∃ t, t = gterm a [y0, y1, y2, y3, y4, y5, y6, y7] k := ⟨_, rfl⟩
        rw [← ht] at HT tb
        unfold gterm at ht
        generalize a.getD (k + 1) 0 = x at *
        generalize [y0, y1, y2, y3, y4, y5, y6, y7].getD k 0 = y at *
        subst ht
        obtain ⟨t1, t2⟩ := tb
        have i1 : ((k + 1 : Nat) : Int) ≤ 8 := by omega
        have i2 : ((k + 1 : Nat) : Int) < 9 := by omega
        have i3 : (k : Int) < 8 := by omega
        have hwA : IntKind.i64.wrap (((k + 1 : Nat) : Int) - 1) = (k : Nat) := by rw [IntKind.wrap_i64]; omega
        have hwB : IntKind.i64.wrap (x * y) = x * y := by rw [IntKind.wrap_i64]; omega
        have hwC : IntKind.i64.wrap (s + x * y) = s + x * y := by rw [IntKind.wrap_i64]; omega
        go_wp2
        go_region
        all_goals
          clear hwA hwB hwC
          go_wp2
          go_roundw
          case rel => exact ⟨k + 1, _, by omega, by go_num, rfl, hid HT.out.symm, IA, IY, hid IL.out.drew⟩
          case measure => simp [intOf] <;> omega
      · obtain rfl : k = 8 := by omega
        have sb := gsum_bound OA.out H16.out 8
        have hs := HSM.out
        have s1 : -300000000000 ≤ s := by omega
        have s2 : s ≤ 300000000000 := by omega
        have HF := hid (show s / 4096 = guessL a [y0, y1, y2, y3, y4, y5, y6, y7] by unfold guessL; rw [HSM.out])
        have KD := hid (fun W => down12 s W (by omega) (by omega))
        clear hs sb
        go_wp2_with (go_at_call 29; (with_reducible refine (KD.out _).mono ?_); rintro e w9 ⟨rfl, hB⟩; have HB9 := hid hB; clear hB)
        go_ret
        exact ⟨by rw [← HF.out]; rfl, IL.out.trans (HB9.out.mono IL.out.size)⟩
  · have IA0 := Blk.below' (Blk.drew (Blk.alloc HI.out (.cells (agi Z8) 42))) HB2.out
    have far : ∀ (W2 : World) (i : Nat) (v : Value), Blk W2 w.heap.size 23 (agi a) → Blk (W2.setCell ⟨W.heap.size, i, none⟩ v) w.heap.size 23 (agi a) := fun W2 i v h => Blk.far h (show w.heap.size ≠ W.heap.size by omega) v
    have IA := far _ 7 (.int .i64 y7) (far _ 6 (.int .i64 y6) (far _ 5 (.int .i64 y5) (far _ 4 (.int .i64 y4) (far _ 3 (.int .i64 y3) (far _ 2 (.int .i64 y2) (far _ 1 (.int .i64 y1) (far _ 0 (.int .i64 y0) IA0)))))))
    have IY2 := IB.set8 B9.out y0 y1 y2 y3 y4 y5 y6 y7
    have IL := below_set8 (((HB.out.alloc (show w.heap.size ≤ W.heap.size by omega) (.cells (agi Z8) 42)).drew).trans (HB2.out.mono (by simp; omega))) (show w.heap.size ≤ W.heap.size by omega) y0 y1 y2 y3 y4 y5 y6 y7
    generalize World.setCell _ _ _ = V at *
    generalize W.heap.size = g9 at *
    have IA := hid IA
    have IY := hid IY2
    have IL := hid IL
    clear IY2 c0 k0 c1 k1 c2 k2 c3 k3 c4 k4 c5 k5 c6 k6 c7 k7
    go_wp2
    go_loopw [10, 11] (fun sv iv wr => ∃ (k : Nat) (s : Int), k ≤ 8 ∧ iv = .int .i64 ((k + 1 : Nat) : Int) ∧ sv = .int .i64 s ∧ Hid (s = 2048 + sumN (gterm a [y0, y1, y2, y3, y4, y5, y6, y7]) k) ∧ Hid (Blk wr w.heap.size 23 (agi a)) ∧ Hid (IB wr g9 42 [y0, y1, y2, y3, y4, y5, y6, y7]) ∧ Hid (Below w.heap.size w wr)) (fun _ iv _ => 9 - (intOf iv).toNat)
    case atStart => exact ⟨0, 2048, by omega, rfl, rfl, hid rfl, IA, IY, IL⟩
    case round =>
      clear IA IY IL
      obtain ⟨k, s, hk, rfl, rfl, HSM, IA, IY, IL⟩ := hrel
      by_cases hlt : k < 8
      · have ca := IB.cell IA.out (k + 1) (by rw [HA.out]; omega)
        have cy := IB.cell IY.out k (by simpa using hlt)
        have tb := gterm_bound OA.out H16.out k
        have sb := gsum_bound OA.out H16.out k
        have HT := hid (show 2048 + sumN (gterm a [y0, y1, y2, y3, y4, y5, y6, y7]) (k + 1) = s + gterm a [y0, y1, y2, y3, y4, y5, y6, y7] k by rw [HSM.out]; simp only [sumN]; omega)
        have hs := HSM.out
        have s1 : -300000000000 ≤ s := by omega
        have s2 : s ≤ 300000000000 := by omega
        clear hs sb HSM
        obtain ⟨t, ht⟩ : ∃ t, t = gterm a [y0, y1, y2, y3, y4, y5, y6, y7] k := ⟨_, rfl⟩
        rw [← ht] at HT tb
        unfold gterm at ht
        generalize a.getD (k + 1) 0 = x at *
        generalize [y0, y1, y2, y3, y4, y5, y6, y7].getD k 0 = y at *
        subst ht
        obtain ⟨t1, t2⟩ := tb
        have i1 : ((k + 1 : Nat) : Int) ≤ 8 := by omega
        have i2 : ((k + 1 : Nat) : Int) < 9 := by omega
        have i3 : (k : Int) < 8 := by omega
        have hwA : IntKind.i64.wrap (((k + 1 : Nat) : Int) - 1) = (k : Nat) := by rw [IntKind.wrap_i64]; omega
        have hwB : IntKind.i64.wrap (x * y) = x * y := by rw [IntKind.wrap_i64]; omega
        have hwC : IntKind.i64.wrap (s + x * y) = s + x * y := by rw [IntKind.wrap_i64]; omega
        go_wp2
        go_region
        all_goals
          clear hwA hwB hwC
          go_wp2
          go_roundw
          case rel => exact ⟨k + 1, _, by omega, by go_num, rfl, hid HT.out.symm, IA, IY, hid IL.out.drew⟩
          case measure => simp [intOf] <;> omega
      · obtain rfl : k = 8 := by omega
        have sb := gsum_bound OA.out H16.out 8
        have hs := HSM.out
        have s1 : -300000000000 ≤ s := by omega
        have s2 : s ≤ 300000000000 := by omega
        have HF := hid (show s / 4096 = guessL a [y0, y1, y2, y3, y4, y5, y6, y7] by unfold guessL; rw [HSM.out])
        have KD := hid (fun W => down12 s W (by omega) (by omega))
        clear hs sb
        go_wp2_with (go_at_call 29; (with_reducible refine (KD.out _).mono ?_); rintro e w9 ⟨rfl, hB⟩; have HB9 := hid hB; clear hB)
        go_ret
        exact ⟨by rw [← HF.out]; rfl, IL.out.trans (HB9.out.mono IL.out.size)⟩
end Go.Proofs.Ytcfmipobgljbeaa

/- The walks of the reference's Make and Undo. -/
namespace Go.Proofs.Ytcfmipobgljbeaa
set_option linter.unusedVariables false
set_option linter.unusedSimpArgs false
set_option maxRecDepth 100000
open Go.RowKit

set_option maxHeartbeats 4000000 in
theorem refMake_any (a p l : List Int) (A0 : Option Addr) (c0 n : Nat) (w : World) (ha : a.length = 9) (hp : p.length = 8) (hr : Rs w w.heap.size A0 l) (hn : l.length = n) (hl : n ≤ 17592186044000) (hc : n ≤ c0) :
    Calls Try.prog 66 #[.agg (agi a), .agg (agi p), .slice A0 n c0] w (NewSP w (if goodF a p l then makeN a p l n else []) (if goodF a p l then newL p (makeN a p l n) else Z8) (errOf (goodF a p l))) := by
  have hR := results_mid3 (fn := Try.f66) (p := 6) (q := 7) (r := 8) (ty := 42) rfl
  have S0 := Sx.start w a p
  have R0 := hr.below S0.bel
  rw [z8_eq] at S0
  rw [z8_eq] at R0
  have S0 := hid S0
  have R0 := hid R0
  have HA := hid ha
  have HP := hid hp
  have HN := hid hn
  have HR := hid hr
  have KG := hid (fun (W : World) (hW : Rs W W.heap.size A0 l) => rightFilter_any a p l A0 c0 n 0 W ha hp hW hn (by omega))
  clear ha hp hn hr
  obtain ⟨Y, hY⟩ : ∃ Y, Y = (if goodF a p l then makeN a p l n else []) := ⟨_, rfl⟩
  obtain ⟨Z, hZ⟩ : ∃ Z, Z = (if goodF a p l then newL p (makeN a p l n) else Z8) := ⟨_, rfl⟩
  rw [← hY, ← hZ]
  have HYY := hid hY
  have HZZ := hid hZ
  clear hY hZ
  go_enter Try.func66, Try.ntmps66
  go_wp2_with (first
    | (refine wpList_loadI rfl 23 (.tmp 3) rfl _ 23 a 9 _ rfl S0.out.A Try.underlying23 rfl size9 HA.out ?_)
    | (refine wpList_loadI rfl 42 (.tmp 4) rfl _ 42 p 8 _ rfl S0.out.P Try.underlying42 rfl size8 HP.out ?_))
  refine (KG.out _ (R0.out.more (by simp; omega))).mono ?_
  rintro e w1 ⟨rfl, hB⟩
  have S1 := hid (S0.out.below hB)
  clear hB S0 R0 KG
  by_cases hg : goodF a p l = true
  · have HG := hid hg
    rw [hg]
    have y1 := HYY.out
    have z1 := HZZ.out
    rw [if_pos hg] at y1 z1
    have HY1 := hid y1
    have HZ1 := hid z1
    clear y1 z1
    obtain ⟨ga, gz, gp, gl⟩ : okP a = true ∧ a.getD 0 0 = 4096 ∧ all16 p = true ∧ all16 l = true := by simpa [goodF] using hg
    have GA := hid ga
    have GP := hid gp
    have GL := hid gl
    clear hg ga gz gp gl
    go_wp2
    go_loopw [9, 20] (fun ov iv wr => ∃ (k : Nat) (A : Option Addr) (c : Nat) (ys : List Int), k ≤ n ∧ iv = .int .i64 k ∧ ov = .slice A k c ∧ Hid (ys = makeN a p l k) ∧ Hid (Own wr (w.heap.size + 3) A c ys) ∧ Hid (Sx w wr a p)) (fun _ iv _ => n - (intOf iv).toNat)
    case atStart => exact ⟨0, none, 0, [], by omega, rfl, rfl, hid rfl, hid Own.nil, S1⟩
    case round =>
      clear S1
      obtain ⟨k, A, c, ys, hk, rfl, rfl, HY, HO, HS⟩ := hrel
      have YL := hid (show ys.length = k by rw [HY.out, makeN_len])
      by_cases hlt : k < n
      · obtain ⟨ad, rfl, hadb, c1⟩ := (HR.out.below HS.out.bel).at_ (k := k) (by rw [HN.out]; exact hlt)
        have xb := all16_at GL.out k
        have YT := hid (show ys.take k = ys from List.take_of_length_le (by rw [YL.out]; exact Nat.le_refl _))
        have q16 := hid (show all16 (newL p ys) = true from newL_all _ _ GP.out (by rw [HY.out]; exact makeN_all _ _ _ _))
        have KC := hid (show k ≤ c from by have := HO.out.cap.1; rw [YL.out] at this; exact this)
        have YN := hid (show ys ++ [s16 (l.getD k 0 - guessL a (newL p ys))] = makeN a p l (k + 1) by rw [makeN, ← HY.out])
        obtain ⟨x, hx⟩ : ∃ x, x = l.getD k 0 := ⟨_, rfl⟩
        rw [← hx] at c1 xb YN
        have gb := guess_bound GA.out q16.out
        have K1 := hid (fun W hW => refguess_any a p ys A c k k W HA.out HP.out GA.out GP.out (by rw [HY.out]; exact makeN_all _ _ _ _) hW YL.out (by omega) (Nat.le_refl _) KC.out)
        rw [YT.out] at K1
        generalize guessL a (newL p ys) = g at *
        obtain ⟨x1, x2⟩ := xb
        obtain ⟨g1, g2⟩ := gb
        have hw1 : IntKind.i64.wrap (x - g) = x - g := by rw [IntKind.wrap_i64]; omega
        have RO := hid (HO.out.reads)
        obtain ⟨y, hy⟩ : ∃ y, y = s16 (x - g) := ⟨_, rfl⟩
        rw [← hy] at YN
        have HX := hid hx
        have KS := hid (fun W => S_any (x - g) W (by omega) (by omega))
        rw [← hy] at KS
        clear hx hy
        go_wp2_with (first
          | (refine wpList_loadI rfl 23 (.tmp 3) rfl _ 23 a 9 _ rfl HS.out.A Try.underlying23 rfl size9 HA.out ?_)
          | (refine wpList_loadI rfl 42 (.tmp 4) rfl _ 42 p 8 _ rfl HS.out.P Try.underlying42 rfl size8 HP.out ?_))
        refine (K1.out _ RO.out).mono ?_
        rintro e w2 ⟨rfl, hB⟩
        have S2 := hid (HS.out.below hB)
        have O2 := hid (HO.out.below hB)
        clear hB HS HO c1
        go_wp2_with fail
        refine (KS.out _).mono ?_
        rintro e w3 ⟨rfl, hB⟩
        have S3 := hid (S2.out.below hB)
        have O3 := hid (O2.out.below hB)
        clear hB S2 O2
        go_wp2_with (at_builtin; refine wpList_pushN rfl (.tmp 25) (.tmp 34) rfl (w.heap.size + 3) A c k ys rfl YL.out (O3.out.alloc _) ⟨w3.heap.size, 0, none⟩ y rfl (cell_new w3 _ _) (by omega) (Nat.le_trans S3.out.lt (by simp)) ?_; intro A2 c2 w5 hO hG hA; have O5 := hid hO; have G5 := hid hG; clear hO hG hA)
        have S5 := hid ((S3.out.alloc _).grown (O3.out.alloc _) G5.out)
        go_wp2
        go_roundw
        case rel => exact ⟨k + 1, A2, c2, _, by omega, by go_num, rfl, YN, O5, S5⟩
        case measure => simp [intOf] <;> omega
      · obtain rfl : k = n := by omega
        have FY := hid (show Y = ys by rw [HY1.out, HY.out])
        have KC := hid (show k ≤ c from by have := HO.out.cap.1; rw [YL.out] at this; exact this)
        have KN := hid (fun (W : World) (hW : Rs W W.heap.size A ys) => newest_any p ys A c k 0 W HP.out hW YL.out (by omega))
        have FZ := hid (show Z = newL p ys by rw [HZ1.out, HY.out])
        have ZL := hid (show (newL p ys).length = 8 from newL_len _ _ HP.out)
        have RO := hid (HO.out.reads)
        go_wp2_with (refine wpList_loadI rfl 42 (.tmp 4) rfl _ 42 p 8 _ rfl HS.out.P Try.underlying42 rfl size8 HP.out ?_)
        refine (KN.out _ RO.out).mono ?_
        rintro e w2 ⟨rfl, hB⟩
        have S2 := hid (HS.out.below hB)
        have O2 := hid (HO.out.below hB)
        clear hB HS HO
        go_wp2_with (refine wpList_storeI rfl 42 (.tmp 7) (.tmp 40) rfl _ 42 Z8 (newL p ys) 8 rfl rfl S2.out.R size8 rfl ZL.out ?_)
        refine bodyPost_ret (v := _) (hR _ _ _ 42 (newL p ys) _ 8 rfl (IB.setRow S2.out.R _) Try.underlying42 rfl size8 ZL.out) rfl ?_
        exact ⟨A, c, by rw [FY.out, FZ.out, YL.out, HG.out]; rfl, by rw [FY.out]; exact (O2.out.setRow (by omega) _).more (by omega), below_setRow S2.out.bel (by omega) _⟩
  · have hb : goodF a p l = false := by simpa using hg
    rw [hb]
    have hRow := hid (S1.out.R)
    go_wp2_with (refine wpList_storeI rfl 42 (.tmp 7) (.tmp 17) rfl _ 42 Z8 Z8 8 rfl rfl S1.out.R size8 rfl rfl ?_)
    refine bodyPost_ret (v := _) (hR _ _ _ 42 Z8 _ 8 rfl (IB.setRow S1.out.R Z8) Try.underlying42 rfl size8 rfl) rfl ?_
    have y1 := HYY.out
    have z1 := HZZ.out
    rw [if_neg hg] at y1 z1
    subst y1
    subst z1
    exact ⟨none, 0, by rw [hb]; rfl, Own.nil, below_setRow S1.out.bel (by omega) _⟩
end Go.Proofs.Ytcfmipobgljbeaa

/- The walk of the reference's Direct. -/
namespace Go.Proofs.Ytcfmipobgljbeaa
set_option linter.unusedVariables false
set_option linter.unusedSimpArgs false
set_option maxRecDepth 100000
open Go.RowKit

theorem own_lit1 (w : World) (v : Int) (base : Nat) (hb : base ≤ w.heap.size) : Own (w.alloc (.cells #[.int .i64 v] 3)) base (some ⟨w.heap.size, 0, none⟩) 1 [v] :=
  World.ownsRow_lit (base := base) (e := 3) (size := 1) w #[.int .i64 v] 1 hb (by unfold maxLen; omega) rfl

set_option maxHeartbeats 8000000 in
theorem refDirect_any (a : List Int) (w : World) (ha : a.length = 8) : Calls Try.prog 63 #[.agg (agi a)] w (Dirs w a) := by
  have I0 := hid (Bx2.start 42 w a)
  have hR := results_row2 (fn := Try.f63) (p := 2) (q := 3) (ty := 23) rfl
  have HA := hid ha
  have HIX := hid (fun (k : Nat) (hk : k < 8) (w : World) => run_index_agi Try.underlying42 a ha k hk w)
  have O1 := IB.new ((w.alloc (.cells (agi a) 42)).alloc (.cells (agi Z9) 23)) 23 Z9
  have I1 := hid ((I0.out.below ((Below.refl _ _).alloc (Nat.le_refl _) (.cells (agi Z9) 23))))
  simp only [World.size_alloc] at O1
  have O1 := hid O1
  have KS := hid (fun w1 => steady_any a w1 ha)
  rw [z9_eq] at O1 I1
  clear ha I0
  by_cases sd : steadyB a = true
  · have SD := hid sd
    have SA := hid (fun i => steadyB_at sd i)
    rw [sd] at KS
    clear sd
    go_enter Try.func63, Try.ntmps63
    go_wp2_with (refine wpList_loadI rfl 42 (.tmp 1) rfl _ 42 a 8 _ rfl I1.out.A Try.underlying42 rfl size8 HA.out ?_)
    refine (KS.out _).mono ?_
    rintro e w1 ⟨rfl, hB⟩
    have I2 := hid (I1.out.below hB)
    have O2 := hid (Blk.below' O1.out hB)
    clear hB O1 I1
    have G2 := hid (own_lit1 w1 16777216 w.heap.size (by have := I2.out.lt; omega))
    have I3 := hid (I2.out.below ((Below.refl _ _).alloc (Nat.le_refl _) (.cells #[.int .i64 16777216] 3)))
    have O3 := hid (Blk.alloc O2.out (.cells #[.int .i64 16777216] 3))
    go_wp2_with (refine wpList_loadI rfl 42 (.tmp 1) rfl _ 42 a 8 _ rfl I3.out.A Try.underlying42 rfl size8 HA.out ?_)
    go_loopw [5, 16] (fun av iv wr => ∃ (m n : Nat) (A : Option Addr) (c : Nat), m ≤ 8 ∧ iv = .int .i64 m ∧ av = .slice A n c ∧ Hid (n = m + 1) ∧ Hid (Own wr w.heap.size A c (dirN a m)) ∧ Hid (Bx2 42 w wr a Z9) ∧ Hid (IB wr (w.heap.size + 1 + 1) 23 Z9)) (fun _ iv _ => 8 - (intOf iv).toNat)
    case atStart => exact ⟨0, 1, _, _, by omega, rfl, rfl, hid rfl, G2, I3, O3⟩
    case round =>
      clear G2 I3 O3 I2 O2
      obtain ⟨m, n, A, c, hm, rfl, rfl, HN, HG, HI, HO⟩ := hrel
      by_cases hlt : m < 8
      · have hix := HIX.out m hlt
        obtain ⟨q, hq⟩ : ∃ q, q = a.getD m 0 := ⟨_, rfl⟩
        rw [← hq] at hix
        have sq := SA.out m
        rw [← hq] at sq
        obtain ⟨q1, q2⟩ := sq
        have KG := hid (grown_any A c (dirN a m) q n wr HG.out.reads (by rw [dirN_len, HN.out]) (by have := HN.out; omega) (by have := HN.out; omega) ⟨by omega, by omega⟩ (fun i => dirN_bd SA.out hm i))
        rw [show growL (dirN a m) q n = dirN a (m + 1) from by rw [hq, HN.out]; rfl] at KG
        clear hq
        go_wp2_with fail
        refine KG.out.mono ?_
        rintro e w2 ⟨A2, c2, rfl, hO, hB⟩
        have G4 := hid (hO.more (base' := w.heap.size) HI.out.bel.size)
        have I4 := hid (HI.out.below hB)
        have O4 := hid (Blk.below' HO.out hB)
        have el : (dirN a (m + 1)).length = m + 1 + 1 := dirN_len a (m + 1)
        rw [el]
        clear hO hB el
        go_wp2
        go_roundw
        case rel => exact ⟨m + 1, m + 2, A2, c2, by omega, by go_num, rfl, hid rfl, G4, I4, O4⟩
        case measure => simp [intOf] <;> omega
      · obtain rfl : m = 8 := by omega
        obtain rfl : n = 9 := HN.out
        obtain ⟨g, rfl, hg1, hg2⟩ := HG.out.head (by rw [dirN_len]; omega)
        have BD := hid (fun j => dirN_bd SA.out (show 8 ≤ 8 by omega) j)
        have hne : g ≠ w.heap.size + 1 + 1 := by
          obtain ⟨g', cap, cur, hA, _, _, hh, _⟩ := HG.out.form (by rw [dirN_len]; omega)
          injection hA with hA
          injection hA with hA
          subst hA
          exact Blk.ne_ (t := 3) hh HO.out (by decide)
        clear hlt
        go_wp2
        go_loopw [25] (fun iv wr => ∃ (k : Nat) (zs : List Int), k ≤ 9 ∧ iv = .int .i64 k ∧ Hid (zs.length = 9 ∧ ∀ j, j < k → zs.getD j 0 = ((dirN a 8).getD j 0 + 2048) / 4096) ∧ Hid (Own wr w.heap.size (some ⟨g, 0, none⟩) c (dirN a 8)) ∧ Hid (Bx2 42 w wr a Z9) ∧ Hid (IB wr (w.heap.size + 1 + 1) 23 zs)) (fun iv _ => 9 - (intOf iv).toNat)
        case atStart => exact ⟨0, Z9, by omega, rfl, hid ⟨rfl, fun j h => by omega⟩, HG, HI, HO⟩
        case round =>
          clear HI HO HG
          obtain ⟨k, zs, hk, rfl, HY, HG, HI, HO⟩ := hrel
          by_cases hlt : k < 9
          · have c1 := HG.out.cell k (by rw [dirN_len]; omega)
            obtain ⟨b1, b2⟩ := BD.out k
            obtain ⟨x, hx⟩ : ∃ x, x = (dirN a 8).getD k 0 := ⟨_, rfl⟩
            rw [← hx] at c1 b1 b2
            have HX := hid hx
            clear hx
            have NEXT := hid (show Hid ((zs.set k ((x + 2048) / 4096)).length = 9 ∧ ∀ j, j < k + 1 → (zs.set k ((x + 2048) / 4096)).getD j 0 = ((dirN a 8).getD j 0 + 2048) / 4096) from by
              obtain ⟨q1, q3⟩ := HY.out
              refine ⟨by simpa using q1, fun j hj => ?_⟩
              by_cases he : k = j
              · subst he
                rw [get_set_same _ _ _ (by omega), HX.out]
              · rw [get_set_other _ _ he]
                exact q3 j (by omega))
            go_wp2_with fail
            refine (down12 (x + 2048) _ (by omega) (by omega)).mono ?_
            rintro e w3 ⟨rfl, hB⟩
            have G3 := hid (HG.out.below hB)
            have I3 := hid (HI.out.below hB)
            have O3 := hid (Blk.below' HO.out hB)
            clear hB c1
            have c3 := IB.cell O3.out k (by rw [HY.out.1]; exact hlt)
            have f3 := Blk.frozen O3.out k
            have I4 := hid (I3.out.setCell (g := w.heap.size + 1 + 1) (by omega) k (.int .i64 ((x + 2048) / 4096)))
            have O4 := hid (IB.set_ O3.out k ((x + 2048) / 4096))
            have G4 := hid (G3.out.kept (row := some (w.heap.size + 1 + 1)) (w' := w3.setCell ⟨w.heap.size + 1 + 1, k, none⟩ (.int .i64 ((x + 2048) / 4096))) ⟨rfl, rfl, rfl, by simp [World.setCell], fun i _ hn => Below.heap_setCell _ _ _ i (by simpa using hn)⟩ (fun ad h => by injection h with h; subst h; simpa using hne))
            go_wp2
            go_roundw
            case rel => exact ⟨k + 1, _, by omega, by go_num, NEXT.out, G4, I4, O4⟩
            case measure => simp [intOf] <;> omega
          · obtain rfl : k = 9 := by omega
            have FIN := hid (dir_good SD.out HY.out.1 HY.out.2 (below_setRow HI.out.bel (g := w.heap.size + 1) (by omega) (agi zs)))
            have hRow := hid (HI.out.R.setRow zs)
            clear hlt
            go_wp2_with (first
              | (refine wpList_loadI rfl 23 (.tmp 4) rfl _ 23 zs 9 _ rfl HO.out Try.underlying23 rfl size9 HY.out.1 ?_)
              | (refine wpList_storeI rfl 23 (.tmp 2) (.tmp 36) rfl _ 23 Z9 zs 9 rfl rfl HI.out.R size9 rfl HY.out.1 ?_))
            refine bodyPost_ret (v := _) (hR _ _ _ 23 zs _ 9 rfl hRow.out Try.underlying23 rfl size9 HY.out.1) rfl ?_
            exact FIN.out
  · have sd' : steadyB a = false := by simpa using sd
    have FIN := hid (fun w1 => dir_bad (w := w) (w' := w1) (a := a) sd')
    rw [sd'] at KS
    clear sd sd'
    go_enter Try.func63, Try.ntmps63
    go_wp2_with (refine wpList_loadI rfl 42 (.tmp 1) rfl _ 42 a 8 _ rfl I1.out.A Try.underlying42 rfl size8 HA.out ?_)
    refine (KS.out _).mono ?_
    rintro e w1 ⟨rfl, hB⟩
    have I2 := hid (I1.out.below hB)
    have O2 := hid (Blk.below' O1.out hB)
    have hRow := hid (I2.out.R.setRow Z9)
    have F2 := hid (FIN.out _ (below_setRow I2.out.bel (g := w.heap.size + 1) (by omega) (agi Z9)))
    clear hB O1 I1
    go_wp2_with (first
      | (refine wpList_loadI rfl 23 (.tmp 4) rfl _ 23 Z9 9 _ rfl O2.out Try.underlying23 rfl size9 rfl ?_)
      | (refine wpList_storeI rfl 23 (.tmp 2) (.tmp 13) rfl _ 23 Z9 Z9 9 rfl rfl I2.out.R size9 rfl rfl ?_))
    refine bodyPost_ret (v := _) (hR _ _ _ 23 Z9 _ 9 rfl hRow.out Try.underlying23 rfl size9 rfl) rfl ?_
    exact F2.out
end Go.Proofs.Ytcfmipobgljbeaa

/- The walk of the reference's Expand, and of the law LpcExpands. -/
namespace Go.Proofs.Ytcfmipobgljbeaa
set_option linter.unusedVariables false
set_option linter.unusedSimpArgs false
set_option maxRecDepth 100000
open Go.RowKit

set_option maxHeartbeats 4000000 in
theorem refExpand_any (a : List Int) (g : Int) (w : World) (ha : a.length = 9) : Calls Try.prog 64 #[.agg (agi a), .int .i64 g] w (Exps w a g) := by
  have I0 := hid (Bx2.start 23 w a)
  have hR := results_row2 (fn := Try.f64) (p := 4) (q := 5) (ty := 23) rfl
  have HA := hid ha
  by_cases h1 : g < 0 ∨ 32768 < g
  · have FIN := hid (exp_bad (a := a) (g := g) (exB_g h1) (below_setRow I0.out.bel (g := w.heap.size + 1) (by omega) (agi Z9)))
    have hRow2 := hid (I0.out.R.setRow Z9)
    clear ha
    rcases h1 with h1 | h1
    · have d1 : decide (g < 0) = true := by simpa using h1
      go_enter Try.func64, Try.ntmps64
      go_wp2_with (refine wpList_storeI rfl 23 (.tmp 4) (.tmp 16) rfl _ 23 Z9 Z9 9 rfl rfl I0.out.R size9 rfl rfl ?_)
      refine bodyPost_ret (v := _) (hR _ _ _ 23 Z9 _ 9 rfl hRow2.out Try.underlying23 rfl size9 rfl) rfl ?_
      exact FIN.out
    · have d1 : decide (g < 0) = false := by simp; omega
      have d2 : decide (32768 < g) = true := by simpa using h1
      go_enter Try.func64, Try.ntmps64
      go_wp2_with (refine wpList_storeI rfl 23 (.tmp 4) (.tmp 16) rfl _ 23 Z9 Z9 9 rfl rfl I0.out.R size9 rfl rfl ?_)
      refine bodyPost_ret (v := _) (hR _ _ _ 23 Z9 _ 9 rfl hRow2.out Try.underlying23 rfl size9 rfl) rfl ?_
      exact FIN.out
  · have h0 : 0 ≤ g := by omega
    have h4 : g ≤ 32768 := by omega
    have d1 : decide (g < 0) = false := by simp; omega
    have d2 : decide (32768 < g) = false := by simp; omega
    have FX := hid (fun k => exF_range h0 h4 k)
    have I1 := hid (I0.out.below ((Below.refl _ _).alloc (Nat.le_refl _) (.cells (agi Z9) 23)))
    have O1 := IB.new ((w.alloc (.cells (agi a) 23)).alloc (.cells (agi Z9) 23)) 23 Z9
    simp only [World.size_alloc] at O1
    have O1 := hid O1
    rw [z9_eq] at I1 O1
    have HIX := hid (fun (k : Nat) (hk : k < 9) (w : World) => run_index_agi Try.underlying23 a ha k hk w)
    clear h1 ha I0
    go_enter Try.func64, Try.ntmps64
    go_wp2_with (refine wpList_loadI rfl 23 (.tmp 2) rfl _ 23 a 9 _ rfl I1.out.A Try.underlying23 rfl size9 HA.out ?_)
    go_loopw [7, 18] (fun fv iv wr => ∃ (k : Nat) (ys : List Int) (f : Int), k ≤ 9 ∧ iv = .int .i64 k ∧ fv = .int .i64 f ∧ Hid (f = exF g k ∧ ys.length = 9 ∧ allTo okA a k ∧ ∀ j, j < k → ys.getD j 0 = exE a g j) ∧ Hid (Bx2 23 w wr a Z9) ∧ Hid (IB wr (w.heap.size + 1 + 1) 23 ys)) (fun _ iv _ => 9 - (intOf iv).toNat)
    case atStart => exact ⟨0, Z9, 32768, by omega, rfl, rfl, hid ⟨rfl, rfl, allTo.zero, fun j h => by omega⟩, I1, O1⟩
    case round =>
      clear I1 O1
      obtain ⟨k, ys, f, hk, rfl, rfl, HY, HI, HO⟩ := hrel
      obtain ⟨f0, f1⟩ := FX.out k
      rw [← HY.out.1] at f0 f1
      by_cases hlt : k < 9
      · have hix := HIX.out k hlt
        obtain ⟨x, hx⟩ : ∃ x, x = a.getD k 0 := ⟨_, rfl⟩
        rw [← hx] at hix
        have HX := hid hx
        clear hx
        by_cases hbad : x < -1073741824 ∨ 1073741824 < x
        · have FIN := hid (exp_bad (a := a) (g := g) (exB_a (k := k) (by rw [HA.out]; exact hlt) (by rw [← HX.out]; exact hbad)) (below_setRow HI.out.bel (g := w.heap.size + 1) (by omega) (agi Z9)))
          have hRow := hid (HI.out.R.setRow Z9)
          rcases hbad with b1 | b1
          · go_wp2_with (refine wpList_storeI rfl 23 (.tmp 4) (.tmp 28) rfl _ 23 Z9 Z9 9 rfl rfl HI.out.R size9 rfl rfl ?_)
            refine bodyPost_ret (v := _) (hR _ _ _ 23 Z9 _ 9 rfl hRow.out Try.underlying23 rfl size9 rfl) rfl ?_
            exact FIN.out
          · have b0 : ¬ x < -1073741824 := by omega
            go_wp2_with (refine wpList_storeI rfl 23 (.tmp 4) (.tmp 28) rfl _ 23 Z9 Z9 9 rfl rfl HI.out.R size9 rfl rfl ?_)
            refine bodyPost_ret (v := _) (hR _ _ _ 23 Z9 _ 9 rfl hRow.out Try.underlying23 rfl size9 rfl) rfl ?_
            exact FIN.out
        · have b1 : -1073741824 ≤ x := by omega
          have b2 : x ≤ 1073741824 := by omega
          obtain ⟨m1, m2⟩ := ex_prod b1 b2 f0 f1
          obtain ⟨m3, m4⟩ := ex_fprod f0 f1 h0 h4
          have NEXT := hid (show Hid ((f * g + 16384) / 32768 = exF g (k + 1) ∧ (ys.set k ((x * f + 16384) / 32768)).length = 9 ∧ allTo okA a (k + 1) ∧ ∀ j, j < k + 1 → (ys.set k ((x * f + 16384) / 32768)).getD j 0 = exE a g j) from by
            obtain ⟨q0, q1, q2, q3⟩ := HY.out
            refine ⟨by rw [q0]; rfl, by simpa using q1, q2.succ (by rw [← HX.out]; exact okA_yes b1 b2), fun j hj => ?_⟩
            by_cases he : k = j
            · subst he
              rw [get_set_same _ _ _ (by omega), exE, ← HX.out, ← q0]
            · rw [get_set_other _ _ he]
              exact q3 j (by omega))
          clear hbad
          go_wp2_with fail
          refine (down_at (x * f + 16384) 15 32768 ((x * f + 16384) / 32768) _ (by omega) (by omega) (by omega) (by decide) rfl).mono ?_
          rintro e w1 ⟨rfl, hB⟩
          have I1 := hid (HI.out.below hB)
          have O1 := hid (Blk.below' HO.out hB)
          clear hB
          have co := IB.cell O1.out k (by rw [HY.out.2.1]; exact hlt)
          have fo := Blk.frozen O1.out k
          have I2 := hid (I1.out.setCell (g := w.heap.size + 1 + 1) (by omega) k (.int .i64 ((x * f + 16384) / 32768)))
          have O2 := hid (IB.set_ O1.out k ((x * f + 16384) / 32768))
          go_wp2_with fail
          refine (down_at (f * g + 16384) 15 32768 ((f * g + 16384) / 32768) _ (by omega) (by omega) (by omega) (by decide) rfl).mono ?_
          rintro e w2 ⟨rfl, hB⟩
          have I3 := hid (I2.out.below hB)
          have O3 := hid (Blk.below' O2.out hB)
          clear hB co fo
          go_wp2
          go_roundw
          case rel => exact ⟨k + 1, _, _, by omega, by go_num, rfl, NEXT.out, I3, O3⟩
          case measure => simp [intOf] <;> omega
      · obtain rfl : k = 9 := by omega
        have hg := exB_yes h0 h4 HY.out.2.2.1 HA.out
        have FIN := hid (exp_good hg HY.out.2.1 HY.out.2.2.2 (below_setRow HI.out.bel (g := w.heap.size + 1) (by omega) (agi ys)))
        have hRow := hid (HI.out.R.setRow ys)
        clear hlt hg
        go_wp2_with (first
          | (refine wpList_loadI rfl 23 (.tmp 6) rfl _ 23 ys 9 _ rfl HO.out Try.underlying23 rfl size9 HY.out.2.1 ?_)
          | (refine wpList_storeI rfl 23 (.tmp 4) (.tmp 42) rfl _ 23 Z9 ys 9 rfl rfl HI.out.R size9 rfl HY.out.2.1 ?_))
        refine bodyPost_ret (v := _) (hR _ _ _ 23 ys _ 9 rfl hRow.out Try.underlying23 rfl size9 HY.out.2.1) rfl ?_
        exact FIN.out
end Go.Proofs.Ytcfmipobgljbeaa

/- The reference's Erase. -/
namespace Go.Proofs.Ytcfmipobgljbeaa
set_option linter.unusedVariables false
set_option linter.unusedSimpArgs false
set_option maxRecDepth 100000
open Go.RowKit

theorem Ec.setP {w wr : World} {m : Mm} {g : Nat} {a p : List Int} (s : Ec w wr m g a) (k : m.ok) (hp : p.length = 8) : Ec w (wr.setCells w.heap.size 8 (ints p)) { m with p := p } g a :=
  ⟨⟨s.M.A.set_p k p hp, blk_sc (by omega) _ _ _ s.M.R, below_sc (Nat.le_refl _) _ _ _ s.M.bel⟩, blk_sc (by have := s.lt; omega) _ _ _ s.F, s.lt⟩

set_option maxHeartbeats 4000000 in
theorem refErase_any (m : Mm) (k : m.ok) (hw64 : W64 m.nums) (w : World) : Calls Try.prog 23 #[.agg m.ag] w (NewM w (coM m) (coY m) (errOf (goodM m))) := by
  have hR := results_mem3 (fn := Try.f23) (p := 2) (q := 3) (r := 4) rfl
  have S0 := hid (Ms.start w m)
  have K := hid k
  have KG := hid (fun W => refGood_any m k hw64 W)
  have KD := hid (fun W => show Calls Try.prog 63 #[.agg (ints m.r).toArray] W (Dirs W m.r) from refDirect_any m.r W k.r)
  have KX := hid (fun W => refExpand_any (dirL m.r) 32440 W (dirL_len _))
  have FR := hid (show coM m = if goodM m then msK (eraA m) m 2 else zeroM from rfl)
  have FY := hid (show coY m = if goodM m then ysK (eraA m) m 2 else [] from by unfold coY ysK ysK ysK; rfl)
  have hi8 : (Try.prog.info? 42).map (·.size) = some (ints m.r).length := by rw [ints_len, k.r]; exact size8'
  have HI8 := hid hi8
  have DL := hid (dirL_len m.r)
  have EL := hid (show (eraA m).length = 9 from exL_len _ _)
  have H64 := hid hw64
  clear k hi8 hw64
  go_enter Try.func23, Try.ntmps23
  go_wp2_with (refine wpList_loadM rfl (.tmp 1) rfl _ m rfl S0.out.A K.out ?_)
  refine (KG.out _).mono ?_
  rintro e w1 ⟨rfl, hB⟩
  have S1 := hid (S0.out.below hB)
  clear hB S0 KG
  cases hg : goodM m with
  | false =>
    have HG := hid hg
    clear hg
    have hRow := hid (MB.setRow S1.out.R zeroM)
    have FIN := hid (below_setRow S1.out.bel (g := w.heap.size + 1) (by omega) zeroM.ag)
    go_wp2_with (refine wpList_storeM rfl (.tmp 2) (.tmp 14) rfl _ zeroM zeroM rfl (congrArg Value.agg zeroM_ag) S1.out.R zeroM_ok zeroM_ok ?_)
    refine bodyPost_ret (v := _) (hR _ _ _ zeroM rfl hRow.out zeroM_ok) rfl ?_
    rw [FR.out, FY.out, HG.out]
    exact ⟨none, 0, rfl, Own.nil, FIN.out⟩
  | true =>
    have HG := hid hg
    clear hg
    go_wp2_with (refine wpList_load_mid rfl 42 (.tmp 16) rfl _ _ rfl (ints m.r) _ (S1.out.A.R K.out) Try.underlying42 rfl HI8.out ?_)
    refine (KD.out _).mono ?_
    rintro e w2 ⟨rfl, hB⟩
    have S2 := hid (S1.out.below hB)
    clear hB S1 KD
    obtain ⟨d, hd⟩ : ∃ d, d = dirL m.r := ⟨_, rfl⟩
    obtain ⟨a, ha⟩ : ∃ a, a = eraA m := ⟨_, rfl⟩
    have hx : exL d 32440 = a := by rw [ha, hd]; rfl
    have KX2 : ∀ W, Calls Try.prog 64 #[.agg (agi d), .int .i64 32440] W (fun e w' => e = .returned (.tuple #[.agg (agi a), .int .i64 (errOf (exB d 32440))]) ∧ Below W.heap.size W w') := fun W => by
      have := KX.out W
      unfold Exps at this
      rw [← hd, hx] at this
      exact this
    have KX2 := hid KX2
    clear KX
    rename_i KXr
    clear KXr
    rw [← hd] at DL ⊢
    rw [← ha] at FR FY EL
    clear hd ha hx
    go_wp2_with (first
      | (refine wpList_storeI rfl 23 (.tmp 5) (.tmp 19) rfl _ 23 Z9 d 9 rfl rfl (IB.new w2 23 Z9) size9 rfl DL.out ?_
         have B3 := below_stored w2 (.cells (agi Z9) 23) (agi d)
         obtain ⟨w3, hw3⟩ : ∃ w3, w3 = (w2.alloc (.cells (agi Z9) 23)).setRow w2.heap.size (agi d) := ⟨_, rfl⟩
         have S3 := hid (show Ms w w3 m by rw [hw3]; exact S2.out.below B3)
         have F3 := hid (show IB w3 w2.heap.size 23 d by rw [hw3]; exact IB.stored w2 23 Z9 d)
         rw [z9_eq] at hw3
         rw [← hw3]
         clear hw3 B3)
      | (refine wpList_loadI rfl 23 (.tmp 5) rfl _ 23 d 9 _ rfl F3.out Try.underlying23 rfl size9 DL.out ?_))
    refine (KX2.out _).mono ?_
    rintro e w4 ⟨rfl, hB⟩
    have S4 := hid (S3.out.below hB)
    have F4 := hid (Blk.below' F3.out hB)
    have GL := hid S2.out.lt
    obtain ⟨g5, hg5⟩ : ∃ g5, g5 = w2.heap.size := ⟨_, rfl⟩
    rw [← hg5] at F4 GL ⊢
    clear hB S2 S3 F3 hg5 KX2
    have E5 := hid (show Ec w (w4.setRow g5 (agi a)) m g5 a from ⟨⟨Blk.rowFar S4.out.A (by have := GL.out; omega), Blk.rowFar S4.out.R (by have := GL.out; omega), below_setRow S4.out.bel (by have := GL.out; omega) _⟩, IB.setRow F4.out a, GL.out⟩)
    go_wp2_with (refine wpList_storeI rfl 23 (.tmp 5) (.tmp 24) rfl _ 23 d a 9 rfl rfl F4.out size9 DL.out EL.out ?_)
    generalize w4.setRow g5 (agi a) = w5 at E5 ⊢
    clear S4 F4
    go_loopw [7, 8] (fun ov iv wr => ∃ (k : Nat) (A : Option Addr) (c n : Nat), k ≤ 2 ∧ iv = .int .i64 k ∧ ov = .slice A n c ∧ Hid ((ysK a m k).length = n) ∧ Hid (Own wr (g5 + 1) A c (ysK a m k)) ∧ Hid (Ec w wr (msK a m k) g5 a)) (fun _ iv _ => 2 - (intOf iv).toNat)
    case atStart => exact ⟨0, none, 0, 0, by omega, rfl, rfl, hid rfl, hid Own.nil, E5⟩
    case round =>
      clear E5
      obtain ⟨k, A, c, n, hk, rfl, rfl, HN, HO, HC⟩ := hrel
      by_cases hlt : k < 2
      · have KO := hid (msK_ok (a := a) K.out k)
        have KE := hid (fun W => refErased_any (msK a m k) KO.out (msK_64 H64.out k) k W)
        have K1 := hid (eraR_ok KO.out (k : Int))
        have KP := hid (fun W A c (h : Rs W W.heap.size A (eraY (msK a m k) k)) (hc : (eraY (msK a m k) k).length ≤ c) => show Calls Try.prog 66 #[.agg (agi a), .agg (ints (eraR (msK a m k) k).p).toArray, .slice A (eraY (msK a m k) k).length c] W (fun e w' => ∃ A3 c3 er3, e = .returned (.tuple #[.slice A3 (stY a (msK a m k) k).length c3, .agg (agi (stM a (msK a m k) k).p), .int .i64 er3]) ∧ Own w' W.heap.size A3 c3 (stY a (msK a m k) k) ∧ Below W.heap.size W w') from by
          have h1 := eraY_len (msK a m k) k
          refine (refMake_any a (eraR (msK a m k) k).p _ A c _ W EL.out K1.out.p h rfl (by omega) hc).mono ?_
          rintro e w' ⟨A3, c3, h1, h2, h3⟩
          exact ⟨A3, c3, _, h1, h2, h3⟩)
        have M2 := hid (show stM a (msK a m k) k = { eraR (msK a m k) k with p := (stM a (msK a m k) k).p } from rfl)
        have K2 := hid (stM_ok KO.out a k)
        have YL := hid (stY_len a (msK a m k) k)
        have NM := hid (show msK a m (k + 1) = stM a (msK a m k) k from rfl)
        have NY := hid (show ysK a m (k + 1) = ysK a m k ++ stY a (msK a m k) k from rfl)
        have YN := hid (ysK_len a m k)
        generalize stM a (msK a m k) k = m2 at *
        generalize stY a (msK a m k) k = y at *
        generalize eraR (msK a m k) k = m1 at *
        generalize eraY (msK a m k) k = x at *
        generalize errOf (eraB (msK a m k) k) = er at *
        generalize msK a m k = mk at *
        generalize ysK a m k = ys at *
        go_wp2_with (refine wpList_loadM rfl (.tmp 1) rfl _ mk rfl HC.out.M.A KO.out ?_)
        refine (KE.out _).mono ?_
        rintro e w6 ⟨A6, c6, rfl, hO, hB⟩
        have C6 := hid (HC.out.below hB)
        have O6 := hid (HO.out.below hB)
        have SZ6 := hid hB.size
        have X6 := hid hO
        have GT := hid HC.out.glt
        clear hO hB HC HO KE
        have C7 := hid (C6.out.setA (mm := m1))
        have O7 := hid (O6.out.setRow (g := w.heap.size) (by have := C6.out.lt; omega) m1.ag)
        have X7 := hid (X6.out.setRow (g := w.heap.size) (by have := C6.out.lt; have := GT.out; omega) m1.ag)
        obtain ⟨w7, hw7⟩ : ∃ w7, w7 = w6.setRow w.heap.size m1.ag := ⟨_, rfl⟩
        rw [← hw7] at C7 O7 X7
        have HW7 := hid hw7
        clear hw7
        have P1 := hid (show (Try.prog.info? 42).map (·.size) = some (ints m1.p).length by rw [ints_len, K1.out.p]; exact size8')
        go_wp2_with (first
          | (refine wpList_storeM rfl (.tmp 1) (.tmp 34) rfl _ mk m1 rfl rfl C6.out.M.A KO.out K1.out ?_; rw [← HW7.out])
          | (refine wpList_loadI rfl 23 (.tmp 5) rfl _ 23 a 9 _ rfl C7.out.F Try.underlying23 rfl size9 EL.out ?_)
          | (refine wpList_load_mid rfl 42 (.tmp 39) rfl _ _ rfl (ints m1.p) _ (C7.out.M.A.P K1.out) Try.underlying42 rfl P1.out ?_))
        refine (KP.out _ _ _ X7.out.reads X7.out.cap.1).mono ?_
        rintro e w8 ⟨A8, c8, er8, rfl, hO, hB⟩
        have C8 := hid (C7.out.below hB)
        have O8 := hid (O7.out.below hB)
        have GT8 := hid C7.out.glt
        have X8 := hid hO
        clear hO hB C6 C7 O6 O7 X6 X7 KP HW7
        have C9 := hid (show Ec w (w8.setCells w.heap.size 8 (ints m2.p)) m2 g5 a by rw [M2.out]; exact C8.out.setP K1.out K2.out.p)
        have O9 := hid (Own.setCs (g := w.heap.size) (by have := C8.out.lt; omega) (ints m2.p) 8 _ O8.out)
        have X9 := hid (Own.setCs (g := w.heap.size) (by have := C8.out.lt; have := GT8.out; omega) (ints m2.p) 8 _ X8.out).reads
        have SZ := hid (show (Try.prog.info? 42).map (·.size) = some (agi m2.p).size from by rw [agi_size, K2.out.p]; exact size8')
        have TH := hid (show w8.there w.heap.size 8 (agi m2.p).size from by rw [agi_size, K2.out.p]; exact C8.out.M.A.thereP K1.out)
        obtain ⟨w9, hw9⟩ : ∃ w9, w9 = w8.setCells w.heap.size 8 (ints m2.p) := ⟨_, rfl⟩
        rw [← hw9] at C9 O9 X9
        have HW9 := hid hw9
        clear hw9
        have GT9 := hid C9.out.glt
        go_wp2_with (first
          | (refine wpList_store_mid rfl 42 (.tmp 46) (.tmp 44) rfl w.heap.size 8 (agi m2.p) rfl rfl TH.out SZ.out (agi_one _) ?_; rw [show (agi m2.p).toList = ints m2.p from rfl, ← HW9.out])
          | (at_builtin; refine wpList_catN rfl (.tmp 47) (.tmp 48) rfl (g5 + 1) A c n ys rfl HN.out O9.out w9.heap.size A8 c8 y.length y rfl rfl X9.out (by have := YL.out; have := YN.out; have := HN.out; omega) (by have := GT9.out; omega) ?_; intro A10 c10 w10 hO hG hA; have C10 := hid (C9.out.grown O9.out hG); have O10 := hid hO; clear hO hG hA))
        go_roundw
        case rel => exact ⟨k + 1, A10, c10, n + y.length, by omega, by go_num, rfl, hid (by rw [NY.out, List.length_append, HN.out]), hid (by rw [NY.out]; exact O10.out), hid (by rw [NM.out]; exact C10.out)⟩
        case measure => simp [intOf] <;> omega
      · obtain rfl : k = 2 := by omega
        have OKS := hid (msK_ok (a := a) K.out 2)
        have hRow := hid (MB.setRow HC.out.M.R (msK a m 2))
        have FIN := hid (below_setRow HC.out.M.bel (g := w.heap.size + 1) (by omega) (msK a m 2).ag)
        have OF := hid ((HO.out.setRow (g := w.heap.size + 1) (by have := HC.out.lt; omega) (msK a m 2).ag).more (base' := w.heap.size) (by have := HC.out.lt; omega))
        generalize msK a m 2 = mf at *
        generalize ysK a m 2 = yf at *
        go_wp2_with (first
          | (refine wpList_loadM rfl (.tmp 1) rfl _ mf rfl HC.out.M.A OKS.out ?_)
          | (refine wpList_storeM rfl (.tmp 2) (.tmp 50) rfl _ zeroM mf rfl rfl HC.out.M.R zeroM_ok OKS.out ?_))
        refine bodyPost_ret (v := _) (hR _ _ _ mf rfl hRow.out OKS.out) rfl ?_
        rw [FR.out, FY.out, HG.out]
        exact ⟨A, c, by rw [if_pos rfl, if_pos rfl, HN.out]; rfl, by rw [if_pos rfl]; exact OF.out, FIN.out⟩
end Go.Proofs.Ytcfmipobgljbeaa

/- Two structs of numbers and arrays that are the same. -/
namespace Go.Proofs.Ytcfmipobgljbeaa
set_option linter.unusedVariables false
set_option linter.unusedSimpArgs false
set_option maxRecDepth 100000
open Go.RowKit

theorem eqFields_self (d : Nat) (xs : Array Value) : ∀ fs : List Field, (∀ f ∈ fs, ∃ v, (∀ w, (part f.type xs f.offset).run Try.prog w = .ok v w) ∧ ∀ w, (Op.equalIn d f.type v v).run Try.prog w = .ok true w) → ∀ w, (Op.eqFields d xs xs fs).run Try.prog w = .ok true w
  | [], _, w => by simp [Op.eqFields]
  | f :: fs, h, w => by
    obtain ⟨v, h1, h2⟩ := h f (by simp)
    have ih := eqFields_self d xs fs (fun g hg => h g (by simp [hg])) w
    simp only [Op.eqFields, Sem.run_bind, Sem.run_ite]
    split
    · simp only [h1, h2, Result.andThen_ok, Bool.not_true, Bool.false_eq_true, if_false]
      exact ih
    · exact ih
theorem part_row {t : TypeId} {n o : Nat} (hs : ∀ w, (sizeOf t).run Try.prog w = .ok n w) (ha : ∀ w, (isAgg t).run Try.prog w = .ok true w) (cs A xs B : List Value) (he : cs = A ++ (xs ++ B)) (ho : A.length = o) (hl : xs.length = n) (w : World) :
    (part t cs.toArray o).run Try.prog w = .ok (.agg xs.toArray) w := by
  subst he
  subst ho
  subst hl
  have e : (A ++ (xs ++ B)).toArray.extract A.length (A.length + xs.length) = xs.toArray := by
    simp [List.extract_toArray]
  simp only [part, Sem.run_bind, ha, hs, Result.andThen_ok, if_true, Sem.run_pure, e]
theorem part_cell {t : TypeId} {o : Nat} (ha : ∀ w, (isAgg t).run Try.prog w = .ok false w) (cs A B : List Value) (v : Value) (he : cs = A ++ (v :: B)) (ho : A.length = o) (w : World) :
    (part t cs.toArray o).run Try.prog w = .ok v w := by
  subst he
  subst ho
  simp [part, ha]
theorem eql_struct {t : TypeId} (ht : Try.prog.underlying t = some (.struct (Try.prog.fieldsOf t))) (hp : Try.prog.stoodInHeld t = false) (xs : Array Value)
    (h : ∀ f ∈ (Try.prog.fieldsOf t).toList, ∃ v, (∀ w, (part f.type xs f.offset).run Try.prog w = .ok v w) ∧ ∀ w, (Op.equalIn 9999 f.type v v).run Try.prog w = .ok true w) (w : World) :
    (binOp .eql t (.agg xs) (.agg xs)).run Try.prog w = .ok (.bool true) w := by
  rw [run_eql_struct, run_equalIn_struct w 9999 t xs xs ht hp, eqFields_self 9999 xs _ h w]
  rfl
theorem eqi (x : Int) (w : World) : (Op.equalIn 9999 3 (.int .i64 x) (.int .i64 x)).run Try.prog w = .ok true w := by
  rw [run_equalIn_int w 9998 3 .i64 .i64 _ _ Try.underlying3]
  simp
theorem eqb (x : Bool) (w : World) : (Op.equalIn 9999 4 (.bool x) (.bool x)).run Try.prog w = .ok true w := by
  rw [run_equalIn_bool' w 9998 4 _ _ Try.underlying4]
  simp
/-- A memory is the same as itself. -/
theorem run_eql_mem (m : Mm) (k : m.ok) (w : World) : (binOp .eql 44 (.agg m.ag) (.agg m.ag)).run Try.prog w = .ok (.bool true) w := by
  refine eql_struct (by kernel_rfl) (by kernel_rfl) _ (fun f hf => ?_) w
  have hm : (f.type, f.offset) ∈ [(42, 0), (42, 8), (34, 16), (3, 96), (3, 97), (3, 98), (3, 99), (3, 100), (4, 101)] := by
    have e : (Try.prog.fieldsOf 44).toList.map (fun f => (f.type, f.offset)) = [(42, 0), (42, 8), (34, 16), (3, 96), (3, 97), (3, 98), (3, 99), (3, 100), (4, 101)] := by kernel_rfl
    rw [← e]
    exact List.mem_map_of_mem hf
  simp only [List.mem_cons, List.not_mem_nil, or_false, Prod.mk.injEq] at hm
  have l16 : (ints m.r ++ ints m.p).length = 16 := by simp only [List.length_append, ints_len, k.r, k.p]
  have l96 : (ints m.r ++ (ints m.p ++ ints m.e)).length = 96 := by simp only [List.length_append, ints_len, k.r, k.p, k.e]
  have e96 : m.cs = (ints m.r ++ (ints m.p ++ ints m.e)) ++ m.tl := by unfold Mm.cs Mm.tl; simp only [List.append_assoc]
  have ic : ∀ (o : Nat) (A B : List Value) (x : Int), m.tl = A ++ (.int .i64 x :: B) → 96 + A.length = o → ∃ v, (∀ w, (part 3 m.ag o).run Try.prog w = .ok v w) ∧ ∀ w, (Op.equalIn 9999 3 v v).run Try.prog w = .ok true w := fun o A B x hx ho =>
    ⟨.int .i64 x, fun w => part_cell (fun _ => by kernel_rfl) m.cs ((ints m.r ++ (ints m.p ++ ints m.e)) ++ A) B (.int .i64 x) (by rw [e96, hx]; simp only [List.append_assoc]) (by rw [List.length_append, l96, ho]) w, eqi x⟩
  rcases hm with ⟨h1, h2⟩ | ⟨h1, h2⟩ | ⟨h1, h2⟩ | ⟨h1, h2⟩ | ⟨h1, h2⟩ | ⟨h1, h2⟩ | ⟨h1, h2⟩ | ⟨h1, h2⟩ | ⟨h1, h2⟩ <;> rw [h1, h2]
  · exact ⟨.agg (agi m.r), fun w => part_row (n := 8) (fun _ => by kernel_rfl) (fun _ => by kernel_rfl) m.cs [] (ints m.r) _ rfl rfl (by rw [ints_len, k.r]) w, fun w => run_equalIn_agi 9997 Try.underlying42 _ k.r w⟩
  · exact ⟨.agg (agi m.p), fun w => part_row (n := 8) (fun _ => by kernel_rfl) (fun _ => by kernel_rfl) m.cs (ints m.r) (ints m.p) _ rfl (by rw [ints_len, k.r]) (by rw [ints_len, k.p]) w, fun w => run_equalIn_agi 9997 Try.underlying42 _ k.p w⟩
  · exact ⟨.agg (agi m.e), fun w => part_row (n := 80) (fun _ => by kernel_rfl) (fun _ => by kernel_rfl) m.cs (ints m.r ++ ints m.p) (ints m.e) m.tl (by unfold Mm.cs Mm.tl; simp only [List.append_assoc]) l16 (by rw [ints_len, k.e]) w, fun w => run_equalIn_agi 9997 Try.underlying34 _ k.e w⟩
  · exact ic 96 [] _ m.ga rfl rfl
  · exact ic 97 [_] _ m.pi rfl rfl
  · exact ic 98 [_, _] _ m.la rfl rfl
  · exact ic 99 [_, _, _] _ m.er rfl rfl
  · exact ic 100 [_, _, _, _] _ m.se rfl rfl
  · exact ⟨.bool m.si, fun w => part_cell (fun _ => by kernel_rfl) m.cs ((ints m.r ++ (ints m.p ++ ints m.e)) ++ [.int .i64 m.ga, .int .i64 m.pi, .int .i64 m.la, .int .i64 m.er, .int .i64 m.se]) [] (.bool m.si) (by rw [e96]; unfold Mm.tl; simp only [List.append_assoc]; rfl) (by rw [List.length_append, l96]; rfl) w, eqb m.si⟩
end Go.Proofs.Ytcfmipobgljbeaa

/- The walk of the law CoderErases. -/
namespace Go.Proofs.Ytcfmipobgljbeaa
set_option linter.unusedVariables false
set_option linter.unusedSimpArgs false
set_option maxRecDepth 100000
open Go.RowKit

/-- Behind a call: the box, the answer's box, the answer's samples. -/
structure LMx (w V : World) (m mm : Mm) (Y : List Int) (A : Option Addr) (g : Nat) : Prop where
  J : MB V w.heap.size m
  Q : MB V g mm
  R : Rs V V.heap.size A Y
  B : Below w.heap.size w V
theorem LMx.below {w V V' : World} {m mm : Mm} {Y : List Int} {A : Option Addr} {g : Nat} (s : LMx w V m mm Y A g) (hb : Below V.heap.size V V') : LMx w V' m mm Y A g :=
  ⟨Blk.below' s.J hb, Blk.below' s.Q hb, (s.R.below hb).more hb.size, s.B.trans (hb.mono s.B.size)⟩
theorem storedM (w : World) (mm : Mm) : MB ((w.alloc (.cells Try.zeroCells44 44)).setRow w.heap.size mm.ag) w.heap.size mm := (newzero w).setRow mm
set_option maxHeartbeats 4000000 in
theorem walkCoderErases (w : World) (m : Mm) (k : m.ok) (hw64 : W64 m.nums) :
    Calls Try.prog 8 #[.agg m.ag] w fun e w' => e = .returned (.bool true) ∧ Below w.heap.size w w' := by
  have K1 := hid (fun W => erase_any m k W)
  have K2 := hid (fun W => refErase_any m k hw64 W)
  have K3 := hid (fun W => refFresh_any W)
  have K4 := hid (fun W => erase_any freshM freshM_ok W)
  have HK := hid (coM_ok k)
  have HF := hid (coM_ok freshM_ok)
  have HYF := hid coY_fresh
  have HY40 := hid (coY_len m)
  have heq := fun w => run_eql_mem (coM m) (coM_ok k) w
  obtain ⟨mm, hmm⟩ : ∃ mm, mm = coM m := ⟨_, rfl⟩
  obtain ⟨Y, hYY⟩ : ∃ Y, Y = coY m := ⟨_, rfl⟩
  obtain ⟨er, her⟩ : ∃ er, er = errOf (goodM m) := ⟨_, rfl⟩
  obtain ⟨mf, hmf⟩ : ∃ mf, mf = coM freshM := ⟨_, rfl⟩
  obtain ⟨YF, hYF⟩ : ∃ YF, YF = coY freshM := ⟨_, rfl⟩
  obtain ⟨ef, hef⟩ : ∃ ef, ef = errOf (goodM freshM) := ⟨_, rfl⟩
  rw [← hmm, ← hYY, ← her] at K1 K2
  rw [← hmf, ← hYF, ← hef] at K4
  rw [← hmm] at HK heq
  rw [← hmf] at HF
  rw [← hYF] at HYF
  rw [← hYY] at HY40
  clear hmm hYY her hmf hYF hef
  have I0 := hid (MB.new w m)
  have L0 := hid ((Below.refl _ w).alloc (Nat.le_refl _) (.cells m.ag 44))
  have K := hid k
  clear k hw64
  go_enter Try.func8, Try.ntmps8
  go_wp2_with (refine wpList_loadM rfl (.tmp 1) rfl _ m rfl I0.out K.out ?_)
  refine (K1.out _).mono ?_
  rintro e w1 ⟨A1, c1, rfl, hO, hB⟩
  have I1 := hid (Blk.below' I0.out hB)
  have L1 := hid (L0.out.trans (hB.mono L0.out.size))
  have R1 := hid hO.reads
  clear hO hB I0 L0
  go_wp2_with (first
    | (refine wpList_storeM rfl (.tmp 3) (.tmp 15) rfl _ zeroM mm rfl rfl (newzero w1) zeroM_ok HK.out ?_
       have B1 := below_stored w1 (.cells Try.zeroCells44 44) mm.ag
       obtain ⟨V, hV⟩ : ∃ V, V = (w1.alloc (.cells Try.zeroCells44 44)).setRow w1.heap.size mm.ag := ⟨_, rfl⟩
       have SV := hid (show LMx w V m mm Y A1 w1.heap.size by rw [hV]; exact ⟨Blk.below' I1.out B1, storedM w1 mm, (R1.out.below B1).more B1.size, L1.out.trans (B1.mono L1.out.size)⟩)
       rw [← hV]
       clear hV B1 I1 R1 L1)
    | (refine wpList_loadM rfl (.tmp 1) rfl _ m rfl SV.out.J K.out ?_))
  refine (K2.out _).mono ?_
  rintro e w2 ⟨A2, c2, rfl, hO, hB⟩
  have S2 := hid (SV.out.below hB)
  have R2 := hid hO.reads
  clear hO hB SV
  go_wp2_with (refine wpList_storeM rfl (.tmp 6) (.tmp 21) rfl _ zeroM mm rfl rfl (newzero w2) zeroM_ok HK.out ?_
               have B2 := below_stored w2 (.cells Try.zeroCells44 44) mm.ag
               obtain ⟨V2, hV⟩ : ∃ V, V = (w2.alloc (.cells Try.zeroCells44 44)).setRow w2.heap.size mm.ag := ⟨_, rfl⟩
               have S3 := hid (show LMx w V2 m mm Y A1 w1.heap.size by rw [hV]; exact S2.out.below B2)
               have Q3 := hid (show MB V2 w2.heap.size mm by rw [hV]; exact storedM w2 mm)
               have R3 := hid (show Rs V2 V2.heap.size A2 Y by rw [hV]; exact (R2.out.below B2).more B2.size)
               rw [← hV]
               clear hV B2 S2 R2)
  refine (K3.out _).mono ?_
  rintro e w3 ⟨rfl, hB⟩
  have S4 := hid (S3.out.below hB)
  have Q4 := hid (Blk.below' Q3.out hB)
  have R4 := hid ((R3.out.below hB).more hB.size)
  clear hB S3 Q3 R3
  go_wp2_with fail
  refine (K4.out _).mono ?_
  rintro e w4 ⟨A4, c4, rfl, hO, hB⟩
  have S5 := hid (S4.out.below hB)
  have Q5 := hid (Blk.below' Q4.out hB)
  have R5 := hid ((R4.out.below hB).more hB.size)
  clear hB hO S4 Q4 R4
  rw [HYF.out]
  go_wp2_with (first
    | (refine wpList_storeM rfl (.tmp 9) (.tmp 27) rfl _ zeroM mf rfl rfl (newzero w4) zeroM_ok HF.out ?_
       have B4 := below_stored w4 (.cells Try.zeroCells44 44) mf.ag
       obtain ⟨V3, hV⟩ : ∃ V, V = (w4.alloc (.cells Try.zeroCells44 44)).setRow w4.heap.size mf.ag := ⟨_, rfl⟩
       have S6 := hid (show LMx w V3 m mm Y A1 w1.heap.size by rw [hV]; exact S5.out.below B4)
       have Q6 := hid (show MB V3 w2.heap.size mm by rw [hV]; exact Blk.below' Q5.out B4)
       have R6 := hid (show Rs V3 V3.heap.size A2 Y by rw [hV]; exact (R5.out.below B4).more B4.size)
       rw [← hV]
       clear hV B4 S5 Q5 R5)
    | (refine wpList_loadM rfl (.tmp 3) rfl _ mm rfl S6.out.Q HK.out ?_)
    | (refine wpList_loadM rfl (.tmp 6) rfl _ mm rfl Q6.out HK.out ?_))
  refine (Same_yes A1 A2 c1 c2 Y.length _ _ Y _ S6.out.R R6.out rfl (by have := HY40.out; omega)).mono ?_
  rintro e w8 ⟨rfl, hB⟩
  have S8 := hid (S6.out.below hB)
  clear hB
  go_wp2
  go_ret
  exact ⟨by simp, S8.out.B⟩
end Go.Proofs.Ytcfmipobgljbeaa
