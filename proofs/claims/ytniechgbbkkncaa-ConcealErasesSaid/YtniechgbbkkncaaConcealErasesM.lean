/- The walks that the law ConcealErases rests on, in one text. -/
import Derived.Test.YtniechgbbkkncaaSilW
import Derived.Test.YtniechgbbkkncaaMxW
import Derived.Test.YtniechgbbkkncaaFadeW
import Derived.Deep.RegionHeld3
import Derived.Test.YtniechgbbkkncaaPushN
import Derived.Test.YtniechgbbkkncaaDownK
import Derived.Test.YtniechgbbkkncaaRow
import Derived.Laws.StructEq
import Derived.Test.YtniechgbbkkncaaMemo
/- Package conceal's Erased. -/
namespace Go.Proofs.Ytniechgbbkkncaa
set_option linter.unusedVariables false
set_option linter.unusedSimpArgs false
set_option maxRecDepth 100000
open Go.RowKit

/-! Plain facts. -/
def eraZ (m : Mm) : Int := fade m.ga m.er / 4
def eraX (m : Mm) : List Int := mxL m.e (nzL m.se (eraZ m) 40) m.la (fade m.pi m.er) 40
def eraN (m : Mm) : Mm := { m with se := nzE m.se 40, e := keepL m.e (eraX m) }
def er1 (m : Mm) (half : Int) : Int := if half = 0 ∧ m.er < 6 then m.er + 1 else m.er
def eraP (m : Mm) (half : Int) : Mm := { m with er := er1 m half }
def eraB (m : Mm) (half : Int) : Bool := goodM m && decide (0 ≤ half ∧ half ≤ 1)
def eraR (m : Mm) (half : Int) : Mm := if eraB m half then eraN (eraP m half) else zeroM
def eraY (m : Mm) (half : Int) : List Int := if eraB m half then eraX (eraP m half) else []
theorem eraX_good {m : Mm} (h : 20 ≤ m.la ∧ m.la ≤ 79) : mxB m.la (fade m.pi m.er) = true := by
  unfold mxB
  have := fade_range m.pi m.er
  rw [pastB_yes h.1 h.2]
  simp [this.1, this.2]
theorem eraX_len {m : Mm} (h : 20 ≤ m.la ∧ m.la ≤ 79) : (eraX m).length = 40 := by
  unfold eraX
  rw [(mx_good (eraX_good h)).1]
  simp
theorem eraN_ok {m : Mm} (k : m.ok) (h : 20 ≤ m.la ∧ m.la ≤ 79) : (eraN m).ok := ⟨k.r, k.p, keepL_len k.e (eraX_len h)⟩
theorem eraP_ok {m : Mm} (k : m.ok) (half : Int) : (eraP m half).ok := ⟨k.r, k.p, k.e⟩
theorem eraB_good {m : Mm} {half : Int} (h : eraB m half = true) : goodM m = true ∧ 0 ≤ half ∧ half ≤ 1 := by
  unfold eraB at h
  simpa using h
theorem eraR_ok {m : Mm} (k : m.ok) (half : Int) : (eraR m half).ok := by
  unfold eraR
  split
  · next h => exact eraN_ok (eraP_ok k half) (goodM_of (eraB_good h).1).2.2.2.1
  · exact zeroM_ok
theorem eraY_len (m : Mm) (half : Int) : (eraY m half).length ≤ 40 := by
  unfold eraY
  split
  · next h => exact Nat.le_of_eq (eraX_len (goodM_of (eraB_good h).1).2.2.2.1)
  · simp

set_option maxHeartbeats 8000000 in
theorem erased_any (m : Mm) (k : m.ok) (half : Int) (w : World) : Calls Try.prog 32 #[.agg m.ag, .int .i64 half] w (NewM w (eraR m half) (eraY m half) (errOf (eraB m half))) := by
  have hR := results_mem3 (fn := Try.f32) (p := 4) (q := 5) (r := 6) rfl
  have S0 := hid (Ms.start w m)
  have K := hid k
  have KG := hid (fun W => good_any m k W)
  clear k
  go_enter Try.func32, Try.ntmps32
  go_wp2_with (refine wpList_loadM rfl (.tmp 2) rfl _ m rfl S0.out.A K.out ?_)
  refine (KG.out _).mono ?_
  rintro e w1 ⟨rfl, hB⟩
  have S1 := hid (S0.out.below hB)
  clear hB S0 KG
  cases hg : goodM m with
  | false =>
    have HE := hid (show eraB m half = false by unfold eraB; rw [hg]; rfl)
    clear hg
    have FR := hid (show eraR m half = zeroM by unfold eraR; rw [HE.out]; rfl)
    have FY := hid (show eraY m half = [] by unfold eraY; rw [HE.out]; rfl)
    have hRow := hid (MB.setRow S1.out.R zeroM)
    have FIN := hid (below_setRow S1.out.bel (g := w.heap.size + 1) (by omega) zeroM.ag)
    go_wp2_with (refine wpList_storeM rfl (.tmp 4) (.tmp 21) rfl _ zeroM zeroM rfl (congrArg Value.agg zeroM_ag) S1.out.R zeroM_ok zeroM_ok ?_)
    refine bodyPost_ret (v := _) (hR _ _ _ zeroM rfl hRow.out zeroM_ok) rfl ?_
    rw [FR.out, FY.out, HE.out]
    exact ⟨none, 0, rfl, Own.nil, FIN.out⟩
  | true =>
  by_cases h1 : half < 0
  · have HE := hid (show eraB m half = false by unfold eraB; simp; omega)
    clear hg
    have FR := hid (show eraR m half = zeroM by unfold eraR; rw [HE.out]; rfl)
    have FY := hid (show eraY m half = [] by unfold eraY; rw [HE.out]; rfl)
    have hRow := hid (MB.setRow S1.out.R zeroM)
    have FIN := hid (below_setRow S1.out.bel (g := w.heap.size + 1) (by omega) zeroM.ag)
    go_wp2_with (refine wpList_storeM rfl (.tmp 4) (.tmp 21) rfl _ zeroM zeroM rfl (congrArg Value.agg zeroM_ag) S1.out.R zeroM_ok zeroM_ok ?_)
    refine bodyPost_ret (v := _) (hR _ _ _ zeroM rfl hRow.out zeroM_ok) rfl ?_
    rw [FR.out, FY.out, HE.out]
    exact ⟨none, 0, rfl, Own.nil, FIN.out⟩
  by_cases h2 : 2 ≤ half
  · have HE := hid (show eraB m half = false by unfold eraB; simp; omega)
    clear hg
    have FR := hid (show eraR m half = zeroM by unfold eraR; rw [HE.out]; rfl)
    have FY := hid (show eraY m half = [] by unfold eraY; rw [HE.out]; rfl)
    have hRow := hid (MB.setRow S1.out.R zeroM)
    have FIN := hid (below_setRow S1.out.bel (g := w.heap.size + 1) (by omega) zeroM.ag)
    go_wp2_with (refine wpList_storeM rfl (.tmp 4) (.tmp 21) rfl _ zeroM zeroM rfl (congrArg Value.agg zeroM_ag) S1.out.R zeroM_ok zeroM_ok ?_)
    refine bodyPost_ret (v := _) (hR _ _ _ zeroM rfl hRow.out zeroM_ok) rfl ?_
    rw [FR.out, FY.out, HE.out]
    exact ⟨none, 0, rfl, Own.nil, FIN.out⟩
  have HE := hid (show eraB m half = true by unfold eraB; rw [hg]; simp; omega)
  have HT := hid (goodM_of hg).2.2.2
  have FR := hid (show eraR m half = eraN (eraP m half) by unfold eraR; rw [HE.out]; rfl)
  have FY := hid (show eraY m half = eraX (eraP m half) by unfold eraY; rw [HE.out]; rfl)
  clear hg
  have key : (half = 0 ∧ m.er < 6) ∨ (half = 0 ∧ m.er = 6) ∨ half = 1 := by
    have := HT.out.2.2.2.2
    omega
  have a5 : w1.cell? ⟨w.heap.size, 99, none⟩ = some (.int .i64 m.er) := S1.out.A.cer K.out
  have f5 : w1.frozen? ⟨w.heap.size, 99, none⟩ = false := MB.frozen S1.out.A 99
  have hM : ∃ m2 : Mm, m2 = eraP m half := ⟨_, rfl⟩
  obtain ⟨m2, hm2⟩ := hM
  rw [← hm2] at FR FY
  have K2 := hid (show m2.ok by rw [hm2]; exact eraP_ok K.out half)
  have HLA := hid (show 20 ≤ m2.la ∧ m2.la ≤ 79 by rw [hm2]; exact HT.out.1)
  rcases key with ⟨rfl, h6⟩ | ⟨rfl, h6⟩ | rfl
  · have hw1 : IntKind.i64.wrap (m.er + 1) = m.er + 1 := by have := HT.out.2.2.2.2; rw [IntKind.wrap_i64]; omega
    have h7 : m.er + 1 ≤ 6 := by omega
    have MM := hid (show Ms w (w1.setCell ⟨w.heap.size, 99, none⟩ (.int .i64 (m.er + 1))) m2 by
      have := S1.out.er K.out (m.er + 1)
      rw [hm2]
      unfold eraP er1
      rw [if_pos ⟨rfl, h6⟩]
      exact this)
    clear hm2 h1 h2
    go_wp2_with fail
    obtain ⟨W2, hW2⟩ : ∃ W2, W2 = w1.setCell ⟨w.heap.size, 99, none⟩ (.int .i64 (m.er + 1)) := ⟨_, rfl⟩
    rw [← hW2] at MM ⊢
    clear hW2 a5 f5 hw1 h6 h7
    have c96 : W2.cell? ⟨w.heap.size, 96, none⟩ = some (.int .i64 m2.ga) := MM.out.A.cga K2.out
    have c99 : W2.cell? ⟨w.heap.size, 99, none⟩ = some (.int .i64 m2.er) := MM.out.A.cer K2.out
    have c100 : W2.cell? ⟨w.heap.size, 100, none⟩ = some (.int .i64 m2.se) := MM.out.A.cse K2.out
    have KN := hid (fun W => show Calls Try.prog 62 #[.int .i64 m2.se, .int .i64 (eraZ m2), .int .i64 40] W (NzA W m2.se (eraZ m2) 40) from cnoise_any m2.se (eraZ m2) 40 W (by omega))
    have KM := hid (fun W A c (hr : Rs W W.heap.size A (nzL m2.se (eraZ m2) 40)) => show Calls Try.prog 28 #[.agg (ints m2.e).toArray, .int .i64 m2.la, .int .i64 (fade m2.pi m2.er), .slice A 40 c] W (fun e w' => ∃ A c, e = .returned (.tuple #[.slice A 40 c, .int .i64 0]) ∧ Own w' W.heap.size A c (eraX m2) ∧ Below W.heap.size W w') from by
      refine (mix_any m2.e _ m2.la (fade m2.pi m2.er) A c 40 W K2.out.e hr (nzL_len _ _ _) (by omega)).mono ?_
      rintro e w' ⟨A', c', h1, h2, h3⟩
      rw [(mx_good (h := m2.e) (x := nzL m2.se (eraZ m2) 40) (eraX_good HLA.out)).2] at h1
      have hl := eraX_len HLA.out
      unfold eraX at hl
      rw [hl] at h1
      exact ⟨A', c', h1, h2, h3⟩)
    have XL := hid (eraX_len HLA.out)
    have EN := hid (show eraN m2 = { m2 with se := nzE m2.se 40, e := keepL m2.e (eraX m2) } from rfl)
    have KF0 := fun W => fade_any m2.ga m2.er W
    have KG0 := fun W => fade_any m2.pi m2.er W
    have fb := fade_range m2.ga m2.er
    have hwz : IntKind.i64.wrap (eraZ m2) = eraZ m2 := by unfold eraZ; rw [IntKind.wrap_i64]; omega
    have hq : (fade m2.ga m2.er).tdiv 4 = eraZ m2 := by unfold eraZ; exact Int.tdiv_eq_ediv_of_nonneg fb.1
    generalize eraX m2 = x at *
    generalize eraZ m2 = z at *
    generalize fade m2.ga m2.er = f at *
    generalize fade m2.pi m2.er = f2 at *
    have KF := hid KF0
    have KG := hid KG0
    clear KF0 KG0 fb
    refine wp_region_noPanic ?_
    refine wp_region_held_drew (S := fun w' => w'.cell? ⟨w.heap.size, 96, none⟩ = some (.int .i64 m2.ga) ∧ w'.cell? ⟨w.heap.size, 99, none⟩ = some (.int .i64 m2.er)) (by kernel_rfl) ⟨c96, c99⟩ (fun hHeld => ?_)
    refine wpAnyH_take (i := 0) (v := ?_) rfl (by kernel_rfl) (by kernel_rfl) (by kernel_rfl) (fun _ _ _ h => h) (Or.inl ⟨by rfl, ?_⟩) hHeld ?_
    rotate_left
    · intro w hSw; obtain ⟨hS1, hS2⟩ := hSw; go_simp
      try with_reducible rfl
    try simp only [List.getElem_toArray, List.getElem_cons_zero, List.getElem_cons_succ, Act.put, List.setIfInBounds_toArray, List.set_cons_zero, List.set_cons_succ]
    refine wpAnyH_take (i := 2) (v := ?_) rfl (by kernel_rfl) (by kernel_rfl) (by kernel_rfl) (fun _ _ _ h => h) (Or.inl ⟨by rfl, ?_⟩) hHeld ?_
    rotate_left
    · intro w hSw; obtain ⟨hS1, hS2⟩ := hSw; go_simp
      try with_reducible rfl
    try simp only [List.getElem_toArray, List.getElem_cons_zero, List.getElem_cons_succ, Act.put, List.setIfInBounds_toArray, List.set_cons_zero, List.set_cons_succ]
    refine wpAnyH_take (i := 3) (v := ?_) rfl (by kernel_rfl) (by kernel_rfl) (by kernel_rfl) (fun _ _ _ h => h) (Or.inl ⟨by rfl, ?_⟩) hHeld ?_
    rotate_left
    · intro w hSw; obtain ⟨hS1, hS2⟩ := hSw; go_simp
      try with_reducible rfl
    try simp only [List.getElem_toArray, List.getElem_cons_zero, List.getElem_cons_succ, Act.put, List.setIfInBounds_toArray, List.set_cons_zero, List.set_cons_succ]
    refine wpAnyH_take (i := 4) (v := ?_) rfl (by kernel_rfl) (by kernel_rfl) (by kernel_rfl) (fun _ _ _ h => h) (Or.inl ⟨by rfl, ?_⟩) hHeld ?_
    rotate_left
    · intro w hSw; obtain ⟨hS1, hS2⟩ := hSw; go_simp
      try with_reducible rfl
    try simp only [List.getElem_toArray, List.getElem_cons_zero, List.getElem_cons_succ, Act.put, List.setIfInBounds_toArray, List.set_cons_zero, List.set_cons_succ]
    refine wpAnyH_take (i := 5) (v := ?_) rfl (by kernel_rfl) (by kernel_rfl) (by kernel_rfl) (fun _ _ _ h => h) (Or.inl ⟨by rfl, ?_⟩) hHeld ?_
    rotate_left
    · intro w hSw; obtain ⟨hS1, hS2⟩ := hSw; go_simp
      try with_reducible rfl
    try simp only [List.getElem_toArray, List.getElem_cons_zero, List.getElem_cons_succ, Act.put, List.setIfInBounds_toArray, List.set_cons_zero, List.set_cons_succ]
    refine wpAnyH_ready (rs := [1, 6]) (by kernel_rfl) (by simp) ?_
    refine AllReadyH.cons rfl (fun K hK => ?_) (AllReadyH.cons rfl (fun K hK => ?_) AllReadyH.nil)
    · clear hHeld
      go_simp
      refine hK.out _ _ ⟨c96, c99⟩ (fun hHeld => ?_)
      clear hK K
      try simp only [List.getElem_toArray, List.getElem_cons_zero, List.getElem_cons_succ, Act.put, List.setIfInBounds_toArray, List.set_cons_zero, List.set_cons_succ]
      refine wpAnyH_ready (rs := [6]) (by kernel_rfl) (by simp) ?_
      refine AllReadyH.cons rfl (fun K hK => ?_) AllReadyH.nil
      clear hHeld
      go_simp
      go_at_call 66
      (with_reducible refine (KF.out _).mono ?_)
      rintro e' w' ⟨rfl, rfl⟩
      refine hK.out _ _ ⟨c96, c99⟩ (fun hHeld => ?_)
      clear hK K
      try simp only [List.getElem_toArray, List.getElem_cons_zero, List.getElem_cons_succ, Act.put, List.setIfInBounds_toArray, List.set_cons_zero, List.set_cons_succ]
      refine wpAnyH_take (i := 7) (v := ?_) rfl (by kernel_rfl) (by kernel_rfl) (by kernel_rfl) (fun _ _ _ h => h) (Or.inl ⟨by rfl, ?_⟩) hHeld ?_
      rotate_left
      · intro w hSw; obtain ⟨hS1, hS2⟩ := hSw; go_simp
        try with_reducible rfl
      try simp only [List.getElem_toArray, List.getElem_cons_zero, List.getElem_cons_succ, Act.put, List.setIfInBounds_toArray, List.set_cons_zero, List.set_cons_succ]
      refine wpAnyH_ready (rs := [8]) (by kernel_rfl) (by simp) ?_
      refine AllReadyH.cons rfl (fun K hK => ?_) AllReadyH.nil
      clear hHeld
      go_simp
      go_at_call 62
      (with_reducible refine (KN.out W2.drew).mono ?_)
      rintro e' w3 ⟨A3, c3, rfl, hO, hB⟩; have M3 : Ms w w3 m2 := MM.out.drew.below hB; have d96 : w3.cell? ⟨w.heap.size, 96, none⟩ = some (.int .i64 m2.ga) := M3.A.cga K2.out; have d99 : w3.cell? ⟨w.heap.size, 99, none⟩ = some (.int .i64 m2.er) := M3.A.cer K2.out; have d100 : w3.cell? ⟨w.heap.size, 100, none⟩ = some (.int .i64 m2.se) := M3.A.cse K2.out; have g100 : w3.frozen? ⟨w.heap.size, 100, none⟩ = false := MB.frozen M3.A 100; have M4 : Ms w (w3.setCell ⟨w.heap.size, 100, none⟩ (.int .i64 (nzE m2.se 40))) { m2 with se := nzE m2.se 40 } := M3.se K2.out (nzE m2.se 40); have h96 : (w3.setCell ⟨w.heap.size, 100, none⟩ (.int .i64 (nzE m2.se 40))).cell? ⟨w.heap.size, 96, none⟩ = some (.int .i64 m2.ga) := M4.A.cga (K2.out.se _); have h99 : (w3.setCell ⟨w.heap.size, 100, none⟩ (.int .i64 (nzE m2.se 40))).cell? ⟨w.heap.size, 99, none⟩ = some (.int .i64 m2.er) := M4.A.cer (K2.out.se _); have M4 := hid M4; have LT3 := hid M3.lt; have O3 := hid hO; clear hO hB
      refine hK.out _ _ ⟨d96, d99⟩ (fun hHeld => ?_)
      clear hK K
      try simp only [List.getElem_toArray, List.getElem_cons_zero, List.getElem_cons_succ, Act.put, List.setIfInBounds_toArray, List.set_cons_zero, List.set_cons_succ]
      refine wpAnyH_take (i := 9) (v := ?_) rfl (by kernel_rfl) (by kernel_rfl) (by kernel_rfl) (fun _ _ _ h => h) (Or.inl ⟨by rfl, ?_⟩) hHeld ?_
      rotate_left
      · intro w hSw; obtain ⟨hS1, hS2⟩ := hSw; go_simp
        try with_reducible rfl
      try simp only [List.getElem_toArray, List.getElem_cons_zero, List.getElem_cons_succ, Act.put, List.setIfInBounds_toArray, List.set_cons_zero, List.set_cons_succ]
      refine wpAnyH_take (i := 10) (v := ?_) rfl (by kernel_rfl) (by kernel_rfl) (by kernel_rfl) (fun _ _ _ h => h) (Or.inl ⟨by rfl, ?_⟩) hHeld ?_
      rotate_left
      · intro w hSw; obtain ⟨hS1, hS2⟩ := hSw; go_simp
        try with_reducible rfl
      try simp only [List.getElem_toArray, List.getElem_cons_zero, List.getElem_cons_succ, Act.put, List.setIfInBounds_toArray, List.set_cons_zero, List.set_cons_succ]
      refine wpAnyH_take (i := 11) (v := ?_) rfl (by kernel_rfl) (by kernel_rfl) (by kernel_rfl) (fun _ _ _ h => h) (Or.inl ⟨by rfl, ?_⟩) hHeld ?_
      rotate_left
      · intro w hSw; obtain ⟨hS1, hS2⟩ := hSw; go_simp
        try with_reducible rfl
      try simp only [List.getElem_toArray, List.getElem_cons_zero, List.getElem_cons_succ, Act.put, List.setIfInBounds_toArray, List.set_cons_zero, List.set_cons_succ]
      refine wpAnyH_take (i := 12) (v := ?_) rfl (by kernel_rfl) (by kernel_rfl) (by kernel_rfl) (fun _ _ _ h => h) (Or.inl ⟨by rfl, ?_⟩) hHeld ?_
      rotate_left
      · intro w hSw; obtain ⟨hS1, hS2⟩ := hSw; go_simp
        try with_reducible rfl
      try simp only [List.getElem_toArray, List.getElem_cons_zero, List.getElem_cons_succ, Act.put, List.setIfInBounds_toArray, List.set_cons_zero, List.set_cons_succ]
      refine wpAnyH_ready (rs := [13]) (by kernel_rfl) (by simp) ?_
      refine AllReadyH.cons rfl (fun K hK => ?_) AllReadyH.nil
      clear hHeld
      go_simp
      refine hK.out _ _ ⟨h96, h99⟩ (fun hHeld => ?_)
      clear hK K
      try simp only [List.getElem_toArray, List.getElem_cons_zero, List.getElem_cons_succ, Act.put, List.setIfInBounds_toArray, List.set_cons_zero, List.set_cons_succ]
      refine wpAnyH_take (i := 14) (v := ?_) rfl (by kernel_rfl) (by kernel_rfl) (by kernel_rfl) (fun _ _ _ h => h) (Or.inl ⟨by rfl, ?_⟩) hHeld ?_
      rotate_left
      · intro w hSw; obtain ⟨hS1, hS2⟩ := hSw; go_simp
        try with_reducible rfl
      try simp only [List.getElem_toArray, List.getElem_cons_zero, List.getElem_cons_succ, Act.put, List.setIfInBounds_toArray, List.set_cons_zero, List.set_cons_succ]
      refine wpAnyH_done (by kernel_rfl) ?_ _
      clear hHeld
      refine NoPanic.normal ?_
      have O4 := hid (show Own (w3.setCell ⟨w.heap.size, 100, none⟩ (.int .i64 (nzE m2.se 40))) (w.heap.size + 2) A3 c3 (nzL m2.se z 40) from Own.setC (O3.out.more (base' := w.heap.size + 2) (by have := MM.out.lt; exact this)) (by omega) 100 _)
      obtain ⟨W4, hW4⟩ : ∃ W4, W4 = w3.setCell ⟨w.heap.size, 100, none⟩ (.int .i64 (nzE m2.se 40)) := ⟨_, rfl⟩
      clear c96 c99 c100 d96 d99 d100 h96 h99 g100 hq hwz MM KN KF
      rw [← hW4] at M4 O4 ⊢
      clear hW4 M3 O3
      have K3 := hid (K2.out.se (nzE m2.se 40))
      have rg4 : W4.rangeAt w.heap.size 16 (ints m2.e) := M4.out.A.E K3.out
      have c98 : W4.cell? ⟨w.heap.size, 98, none⟩ = some (.int .i64 m2.la) := M4.out.A.cla K3.out
      have c97 : W4.cell? ⟨w.heap.size, 97, none⟩ = some (.int .i64 m2.pi) := M4.out.A.cpi K3.out
      have c99 : W4.cell? ⟨w.heap.size, 99, none⟩ = some (.int .i64 m2.er) := M4.out.A.cer K3.out
      have hu80 := Try.underlying40
      have hi80 : (Try.prog.info? 40).map (·.size) = some (ints m2.e).length := by rw [ints_len, K2.out.e]; exact size80k
      have R4 := hid (show Rs W4.drew W4.drew.heap.size A3 (nzL m2.se z 40) from O4.out.reads)
      simp only [Exit.then]
      go_wp2_with fail
      go_region_held3 (fun w' => w'.rangeAt w.heap.size 16 (ints m2.e) ∧ w'.cell? ⟨w.heap.size, 98, none⟩ = some (.int .i64 m2.la) ∧ w'.cell? ⟨w.heap.size, 97, none⟩ = some (.int .i64 m2.pi) ∧ w'.cell? ⟨w.heap.size, 99, none⟩ = some (.int .i64 m2.er)) (first | exact ⟨by assumption, by assumption, by assumption, by assumption⟩ | go_keep) (first
        | (go_at_call 66; (with_reducible refine (KG.out _).mono ?_); rintro e' w' ⟨rfl, rfl⟩)
        | (go_at_call 28; (with_reducible refine (KM.out W4.drew A3 c3 R4.out).mono ?_); rintro e' w5 ⟨A5, c5, rfl, hO, hB⟩; have M5 : Ms w w5 { m2 with se := nzE m2.se 40 } := M4.out.drew.below hB; have rg5 : w5.rangeAt w.heap.size 16 (ints m2.e) := M5.A.E K3.out; have d98 : w5.cell? ⟨w.heap.size, 98, none⟩ = some (.int .i64 m2.la) := M5.A.cla K3.out; have d97 : w5.cell? ⟨w.heap.size, 97, none⟩ = some (.int .i64 m2.pi) := M5.A.cpi K3.out; have d99 : w5.cell? ⟨w.heap.size, 99, none⟩ = some (.int .i64 m2.er) := M5.A.cer K3.out; have M5 := hid M5; have O5 := hid (hO.more (base' := w.heap.size + 2) (by have := M4.out.lt; exact this)); clear hO hB))
      rename_i hHeldZ
      clear hHeldZ
      clear rg4 c98 c97 c99 rg5 d98 d97 d99 hu80 M4 O4 R4 KM KG
      have KL := hid (keepL_len K2.out.e XL.out)
      have KK := hid (fun W A c (h : Rs W W.heap.size A x) => show Calls Try.prog 30 #[.agg (ints m2.e).toArray, .slice A 40 c] W (Keeps W m2.e x 40) from keep_any m2.e _ A c 40 W K2.out.e h XL.out (by omega))
      have HI80 := hid hi80
      clear hi80
      simp only [Exit.then]
      go_wp2_with (refine wpList_load_mid rfl 40 (.tmp 61) rfl _ _ rfl (ints m2.e) _ (M5.out.A.E K3.out) Try.underlying40 rfl HI80.out ?_)
      refine (KK.out w5 A5 c5 O5.out.reads).mono ?_
      rintro e w6 ⟨rfl, hB⟩
      have M6 := hid (M5.out.below hB)
      have O6 := hid (O5.out.below hB)
      clear hB M5 O5 KK
      have hKE := hid (show keepA m2.e x 40 = keepL m2.e x from rfl)
      rw [hKE.out]
      have M7 := hid (M6.out.ex K3.out _ KL.out)
      have O7 := hid (Own.setCs (g := w.heap.size) (by omega) (ints (keepL m2.e x)) 16 _ O6.out)
      have SZ := hid (show (Try.prog.info? 40).map (·.size) = some (agi (keepL m2.e x)).size from by rw [agi_size, KL.out]; exact size80k)
      have TH := hid (show w6.there w.heap.size 16 (agi (keepL m2.e x)).size from by rw [agi_size, KL.out]; exact M6.out.A.thereE K3.out)
      have OKS := hid (show (eraN m2).ok by rw [EN.out]; exact (K3.out.ex KL.out))
      obtain ⟨w7, hw7⟩ : ∃ w7, w7 = w6.setCells w.heap.size 16 (ints (keepL m2.e x)) := ⟨_, rfl⟩
      rw [← hw7] at M7 O7
      have HW7 := hid hw7
      have T7 := hid (show Ms w w7 (eraN m2) by rw [EN.out]; exact M7.out)
      clear hw7 M7 EN
      have hRow := hid (MB.setRow T7.out.R (eraN m2))
      have FIN := hid (below_setRow T7.out.bel (g := w.heap.size + 1) (by omega) (eraN m2).ag)
      have OF := hid ((O7.out.setRow (g := w.heap.size + 1) (by omega) (eraN m2).ag).more (base' := w.heap.size) (by omega))
      go_wp2_with (first
        | (refine wpList_store_mid rfl 40 (.tmp 67) (.tmp 65) rfl w.heap.size 16 (agi (keepL m2.e x)) rfl rfl TH.out SZ.out (agi_one _) ?_; rw [show (agi (keepL m2.e x)).toList = ints (keepL m2.e x) from rfl, ← HW7.out])
        | (refine wpList_loadM rfl (.tmp 2) rfl _ (eraN m2) rfl T7.out.A OKS.out ?_)
        | (refine wpList_storeM rfl (.tmp 4) (.tmp 68) rfl _ zeroM (eraN m2) rfl rfl T7.out.R zeroM_ok OKS.out ?_))
      refine bodyPost_ret (v := _) (hR _ _ _ (eraN m2) rfl hRow.out OKS.out) rfl ?_
      rw [FR.out, FY.out, HE.out]
      exact ⟨A5, c5, by rw [XL.out]; rfl, OF.out, FIN.out⟩

    · clear hHeld
      go_simp
      go_at_call 66
      (with_reducible refine (KF.out _).mono ?_)
      rintro e' w' ⟨rfl, rfl⟩
      refine hK.out _ _ ⟨c96, c99⟩ (fun hHeld => ?_)
      clear hK K
      try simp only [List.getElem_toArray, List.getElem_cons_zero, List.getElem_cons_succ, Act.put, List.setIfInBounds_toArray, List.set_cons_zero, List.set_cons_succ]
      refine wpAnyH_take (i := 7) (v := ?_) rfl (by kernel_rfl) (by kernel_rfl) (by kernel_rfl) (fun _ _ _ h => h) (Or.inl ⟨by rfl, ?_⟩) hHeld ?_
      rotate_left
      · intro w hSw; obtain ⟨hS1, hS2⟩ := hSw; go_simp
        try with_reducible rfl
      try simp only [List.getElem_toArray, List.getElem_cons_zero, List.getElem_cons_succ, Act.put, List.setIfInBounds_toArray, List.set_cons_zero, List.set_cons_succ]
      refine wpAnyH_ready (rs := [1]) (by kernel_rfl) (by simp) ?_
      refine AllReadyH.cons rfl (fun K hK => ?_) AllReadyH.nil
      clear hHeld
      go_simp
      refine hK.out _ _ ⟨c96, c99⟩ (fun hHeld => ?_)
      clear hK K
      try simp only [List.getElem_toArray, List.getElem_cons_zero, List.getElem_cons_succ, Act.put, List.setIfInBounds_toArray, List.set_cons_zero, List.set_cons_succ]
      refine wpAnyH_ready (rs := [8]) (by kernel_rfl) (by simp) ?_
      refine AllReadyH.cons rfl (fun K hK => ?_) AllReadyH.nil
      clear hHeld
      go_simp
      go_at_call 62
      (with_reducible refine (KN.out W2.drew).mono ?_)
      rintro e' w3 ⟨A3, c3, rfl, hO, hB⟩; have M3 : Ms w w3 m2 := MM.out.drew.below hB; have d96 : w3.cell? ⟨w.heap.size, 96, none⟩ = some (.int .i64 m2.ga) := M3.A.cga K2.out; have d99 : w3.cell? ⟨w.heap.size, 99, none⟩ = some (.int .i64 m2.er) := M3.A.cer K2.out; have d100 : w3.cell? ⟨w.heap.size, 100, none⟩ = some (.int .i64 m2.se) := M3.A.cse K2.out; have g100 : w3.frozen? ⟨w.heap.size, 100, none⟩ = false := MB.frozen M3.A 100; have M4 : Ms w (w3.setCell ⟨w.heap.size, 100, none⟩ (.int .i64 (nzE m2.se 40))) { m2 with se := nzE m2.se 40 } := M3.se K2.out (nzE m2.se 40); have h96 : (w3.setCell ⟨w.heap.size, 100, none⟩ (.int .i64 (nzE m2.se 40))).cell? ⟨w.heap.size, 96, none⟩ = some (.int .i64 m2.ga) := M4.A.cga (K2.out.se _); have h99 : (w3.setCell ⟨w.heap.size, 100, none⟩ (.int .i64 (nzE m2.se 40))).cell? ⟨w.heap.size, 99, none⟩ = some (.int .i64 m2.er) := M4.A.cer (K2.out.se _); have M4 := hid M4; have LT3 := hid M3.lt; have O3 := hid hO; clear hO hB
      refine hK.out _ _ ⟨d96, d99⟩ (fun hHeld => ?_)
      clear hK K
      try simp only [List.getElem_toArray, List.getElem_cons_zero, List.getElem_cons_succ, Act.put, List.setIfInBounds_toArray, List.set_cons_zero, List.set_cons_succ]
      refine wpAnyH_take (i := 9) (v := ?_) rfl (by kernel_rfl) (by kernel_rfl) (by kernel_rfl) (fun _ _ _ h => h) (Or.inl ⟨by rfl, ?_⟩) hHeld ?_
      rotate_left
      · intro w hSw; obtain ⟨hS1, hS2⟩ := hSw; go_simp
        try with_reducible rfl
      try simp only [List.getElem_toArray, List.getElem_cons_zero, List.getElem_cons_succ, Act.put, List.setIfInBounds_toArray, List.set_cons_zero, List.set_cons_succ]
      refine wpAnyH_take (i := 10) (v := ?_) rfl (by kernel_rfl) (by kernel_rfl) (by kernel_rfl) (fun _ _ _ h => h) (Or.inl ⟨by rfl, ?_⟩) hHeld ?_
      rotate_left
      · intro w hSw; obtain ⟨hS1, hS2⟩ := hSw; go_simp
        try with_reducible rfl
      try simp only [List.getElem_toArray, List.getElem_cons_zero, List.getElem_cons_succ, Act.put, List.setIfInBounds_toArray, List.set_cons_zero, List.set_cons_succ]
      refine wpAnyH_take (i := 11) (v := ?_) rfl (by kernel_rfl) (by kernel_rfl) (by kernel_rfl) (fun _ _ _ h => h) (Or.inl ⟨by rfl, ?_⟩) hHeld ?_
      rotate_left
      · intro w hSw; obtain ⟨hS1, hS2⟩ := hSw; go_simp
        try with_reducible rfl
      try simp only [List.getElem_toArray, List.getElem_cons_zero, List.getElem_cons_succ, Act.put, List.setIfInBounds_toArray, List.set_cons_zero, List.set_cons_succ]
      refine wpAnyH_take (i := 12) (v := ?_) rfl (by kernel_rfl) (by kernel_rfl) (by kernel_rfl) (fun _ _ _ h => h) (Or.inl ⟨by rfl, ?_⟩) hHeld ?_
      rotate_left
      · intro w hSw; obtain ⟨hS1, hS2⟩ := hSw; go_simp
        try with_reducible rfl
      try simp only [List.getElem_toArray, List.getElem_cons_zero, List.getElem_cons_succ, Act.put, List.setIfInBounds_toArray, List.set_cons_zero, List.set_cons_succ]
      refine wpAnyH_ready (rs := [13]) (by kernel_rfl) (by simp) ?_
      refine AllReadyH.cons rfl (fun K hK => ?_) AllReadyH.nil
      clear hHeld
      go_simp
      refine hK.out _ _ ⟨h96, h99⟩ (fun hHeld => ?_)
      clear hK K
      try simp only [List.getElem_toArray, List.getElem_cons_zero, List.getElem_cons_succ, Act.put, List.setIfInBounds_toArray, List.set_cons_zero, List.set_cons_succ]
      refine wpAnyH_take (i := 14) (v := ?_) rfl (by kernel_rfl) (by kernel_rfl) (by kernel_rfl) (fun _ _ _ h => h) (Or.inl ⟨by rfl, ?_⟩) hHeld ?_
      rotate_left
      · intro w hSw; obtain ⟨hS1, hS2⟩ := hSw; go_simp
        try with_reducible rfl
      try simp only [List.getElem_toArray, List.getElem_cons_zero, List.getElem_cons_succ, Act.put, List.setIfInBounds_toArray, List.set_cons_zero, List.set_cons_succ]
      refine wpAnyH_done (by kernel_rfl) ?_ _
      clear hHeld
      refine NoPanic.normal ?_
      have O4 := hid (show Own (w3.setCell ⟨w.heap.size, 100, none⟩ (.int .i64 (nzE m2.se 40))) (w.heap.size + 2) A3 c3 (nzL m2.se z 40) from Own.setC (O3.out.more (base' := w.heap.size + 2) (by have := MM.out.lt; exact this)) (by omega) 100 _)
      obtain ⟨W4, hW4⟩ : ∃ W4, W4 = w3.setCell ⟨w.heap.size, 100, none⟩ (.int .i64 (nzE m2.se 40)) := ⟨_, rfl⟩
      clear c96 c99 c100 d96 d99 d100 h96 h99 g100 hq hwz MM KN KF
      rw [← hW4] at M4 O4 ⊢
      clear hW4 M3 O3
      have K3 := hid (K2.out.se (nzE m2.se 40))
      have rg4 : W4.rangeAt w.heap.size 16 (ints m2.e) := M4.out.A.E K3.out
      have c98 : W4.cell? ⟨w.heap.size, 98, none⟩ = some (.int .i64 m2.la) := M4.out.A.cla K3.out
      have c97 : W4.cell? ⟨w.heap.size, 97, none⟩ = some (.int .i64 m2.pi) := M4.out.A.cpi K3.out
      have c99 : W4.cell? ⟨w.heap.size, 99, none⟩ = some (.int .i64 m2.er) := M4.out.A.cer K3.out
      have hu80 := Try.underlying40
      have hi80 : (Try.prog.info? 40).map (·.size) = some (ints m2.e).length := by rw [ints_len, K2.out.e]; exact size80k
      have R4 := hid (show Rs W4.drew W4.drew.heap.size A3 (nzL m2.se z 40) from O4.out.reads)
      simp only [Exit.then]
      go_wp2_with fail
      go_region_held3 (fun w' => w'.rangeAt w.heap.size 16 (ints m2.e) ∧ w'.cell? ⟨w.heap.size, 98, none⟩ = some (.int .i64 m2.la) ∧ w'.cell? ⟨w.heap.size, 97, none⟩ = some (.int .i64 m2.pi) ∧ w'.cell? ⟨w.heap.size, 99, none⟩ = some (.int .i64 m2.er)) (first | exact ⟨by assumption, by assumption, by assumption, by assumption⟩ | go_keep) (first
        | (go_at_call 66; (with_reducible refine (KG.out _).mono ?_); rintro e' w' ⟨rfl, rfl⟩)
        | (go_at_call 28; (with_reducible refine (KM.out W4.drew A3 c3 R4.out).mono ?_); rintro e' w5 ⟨A5, c5, rfl, hO, hB⟩; have M5 : Ms w w5 { m2 with se := nzE m2.se 40 } := M4.out.drew.below hB; have rg5 : w5.rangeAt w.heap.size 16 (ints m2.e) := M5.A.E K3.out; have d98 : w5.cell? ⟨w.heap.size, 98, none⟩ = some (.int .i64 m2.la) := M5.A.cla K3.out; have d97 : w5.cell? ⟨w.heap.size, 97, none⟩ = some (.int .i64 m2.pi) := M5.A.cpi K3.out; have d99 : w5.cell? ⟨w.heap.size, 99, none⟩ = some (.int .i64 m2.er) := M5.A.cer K3.out; have M5 := hid M5; have O5 := hid (hO.more (base' := w.heap.size + 2) (by have := M4.out.lt; exact this)); clear hO hB))
      rename_i hHeldZ
      clear hHeldZ
      clear rg4 c98 c97 c99 rg5 d98 d97 d99 hu80 M4 O4 R4 KM KG
      have KL := hid (keepL_len K2.out.e XL.out)
      have KK := hid (fun W A c (h : Rs W W.heap.size A x) => show Calls Try.prog 30 #[.agg (ints m2.e).toArray, .slice A 40 c] W (Keeps W m2.e x 40) from keep_any m2.e _ A c 40 W K2.out.e h XL.out (by omega))
      have HI80 := hid hi80
      clear hi80
      simp only [Exit.then]
      go_wp2_with (refine wpList_load_mid rfl 40 (.tmp 61) rfl _ _ rfl (ints m2.e) _ (M5.out.A.E K3.out) Try.underlying40 rfl HI80.out ?_)
      refine (KK.out w5 A5 c5 O5.out.reads).mono ?_
      rintro e w6 ⟨rfl, hB⟩
      have M6 := hid (M5.out.below hB)
      have O6 := hid (O5.out.below hB)
      clear hB M5 O5 KK
      have hKE := hid (show keepA m2.e x 40 = keepL m2.e x from rfl)
      rw [hKE.out]
      have M7 := hid (M6.out.ex K3.out _ KL.out)
      have O7 := hid (Own.setCs (g := w.heap.size) (by omega) (ints (keepL m2.e x)) 16 _ O6.out)
      have SZ := hid (show (Try.prog.info? 40).map (·.size) = some (agi (keepL m2.e x)).size from by rw [agi_size, KL.out]; exact size80k)
      have TH := hid (show w6.there w.heap.size 16 (agi (keepL m2.e x)).size from by rw [agi_size, KL.out]; exact M6.out.A.thereE K3.out)
      have OKS := hid (show (eraN m2).ok by rw [EN.out]; exact (K3.out.ex KL.out))
      obtain ⟨w7, hw7⟩ : ∃ w7, w7 = w6.setCells w.heap.size 16 (ints (keepL m2.e x)) := ⟨_, rfl⟩
      rw [← hw7] at M7 O7
      have HW7 := hid hw7
      have T7 := hid (show Ms w w7 (eraN m2) by rw [EN.out]; exact M7.out)
      clear hw7 M7 EN
      have hRow := hid (MB.setRow T7.out.R (eraN m2))
      have FIN := hid (below_setRow T7.out.bel (g := w.heap.size + 1) (by omega) (eraN m2).ag)
      have OF := hid ((O7.out.setRow (g := w.heap.size + 1) (by omega) (eraN m2).ag).more (base' := w.heap.size) (by omega))
      go_wp2_with (first
        | (refine wpList_store_mid rfl 40 (.tmp 67) (.tmp 65) rfl w.heap.size 16 (agi (keepL m2.e x)) rfl rfl TH.out SZ.out (agi_one _) ?_; rw [show (agi (keepL m2.e x)).toList = ints (keepL m2.e x) from rfl, ← HW7.out])
        | (refine wpList_loadM rfl (.tmp 2) rfl _ (eraN m2) rfl T7.out.A OKS.out ?_)
        | (refine wpList_storeM rfl (.tmp 4) (.tmp 68) rfl _ zeroM (eraN m2) rfl rfl T7.out.R zeroM_ok OKS.out ?_))
      refine bodyPost_ret (v := _) (hR _ _ _ (eraN m2) rfl hRow.out OKS.out) rfl ?_
      rw [FR.out, FY.out, HE.out]
      exact ⟨A5, c5, by rw [XL.out]; rfl, OF.out, FIN.out⟩
  · have h6' := hid h6
    have a6 : w1.cell? ⟨w.heap.size, 99, none⟩ = some (.int .i64 6) := by rw [a5, h6]
    have MM := hid (show Ms w (w1.setCell ⟨w.heap.size, 99, none⟩ (.int .i64 6)) m2 by
      have := S1.out.er K.out 6
      rw [hm2]
      unfold eraP er1
      rw [if_neg (by omega), h6]
      exact this)
    clear hm2 h1 h2 h6 a5
    go_wp2_with fail
    obtain ⟨W2, hW2⟩ : ∃ W2, W2 = w1.setCell ⟨w.heap.size, 99, none⟩ (.int .i64 6) := ⟨_, rfl⟩
    rw [← hW2] at MM ⊢
    clear hW2 a6 f5 h6'
    have c96 : W2.cell? ⟨w.heap.size, 96, none⟩ = some (.int .i64 m2.ga) := MM.out.A.cga K2.out
    have c99 : W2.cell? ⟨w.heap.size, 99, none⟩ = some (.int .i64 m2.er) := MM.out.A.cer K2.out
    have c100 : W2.cell? ⟨w.heap.size, 100, none⟩ = some (.int .i64 m2.se) := MM.out.A.cse K2.out
    have KN := hid (fun W => show Calls Try.prog 62 #[.int .i64 m2.se, .int .i64 (eraZ m2), .int .i64 40] W (NzA W m2.se (eraZ m2) 40) from cnoise_any m2.se (eraZ m2) 40 W (by omega))
    have KM := hid (fun W A c (hr : Rs W W.heap.size A (nzL m2.se (eraZ m2) 40)) => show Calls Try.prog 28 #[.agg (ints m2.e).toArray, .int .i64 m2.la, .int .i64 (fade m2.pi m2.er), .slice A 40 c] W (fun e w' => ∃ A c, e = .returned (.tuple #[.slice A 40 c, .int .i64 0]) ∧ Own w' W.heap.size A c (eraX m2) ∧ Below W.heap.size W w') from by
      refine (mix_any m2.e _ m2.la (fade m2.pi m2.er) A c 40 W K2.out.e hr (nzL_len _ _ _) (by omega)).mono ?_
      rintro e w' ⟨A', c', h1, h2, h3⟩
      rw [(mx_good (h := m2.e) (x := nzL m2.se (eraZ m2) 40) (eraX_good HLA.out)).2] at h1
      have hl := eraX_len HLA.out
      unfold eraX at hl
      rw [hl] at h1
      exact ⟨A', c', h1, h2, h3⟩)
    have XL := hid (eraX_len HLA.out)
    have EN := hid (show eraN m2 = { m2 with se := nzE m2.se 40, e := keepL m2.e (eraX m2) } from rfl)
    have KF0 := fun W => fade_any m2.ga m2.er W
    have KG0 := fun W => fade_any m2.pi m2.er W
    have fb := fade_range m2.ga m2.er
    have hwz : IntKind.i64.wrap (eraZ m2) = eraZ m2 := by unfold eraZ; rw [IntKind.wrap_i64]; omega
    have hq : (fade m2.ga m2.er).tdiv 4 = eraZ m2 := by unfold eraZ; exact Int.tdiv_eq_ediv_of_nonneg fb.1
    generalize eraX m2 = x at *
    generalize eraZ m2 = z at *
    generalize fade m2.ga m2.er = f at *
    generalize fade m2.pi m2.er = f2 at *
    have KF := hid KF0
    have KG := hid KG0
    clear KF0 KG0 fb
    refine wp_region_noPanic ?_
    refine wp_region_held_drew (S := fun w' => w'.cell? ⟨w.heap.size, 96, none⟩ = some (.int .i64 m2.ga) ∧ w'.cell? ⟨w.heap.size, 99, none⟩ = some (.int .i64 m2.er)) (by kernel_rfl) ⟨c96, c99⟩ (fun hHeld => ?_)
    refine wpAnyH_take (i := 0) (v := ?_) rfl (by kernel_rfl) (by kernel_rfl) (by kernel_rfl) (fun _ _ _ h => h) (Or.inl ⟨by rfl, ?_⟩) hHeld ?_
    rotate_left
    · intro w hSw; obtain ⟨hS1, hS2⟩ := hSw; go_simp
      try with_reducible rfl
    try simp only [List.getElem_toArray, List.getElem_cons_zero, List.getElem_cons_succ, Act.put, List.setIfInBounds_toArray, List.set_cons_zero, List.set_cons_succ]
    refine wpAnyH_take (i := 2) (v := ?_) rfl (by kernel_rfl) (by kernel_rfl) (by kernel_rfl) (fun _ _ _ h => h) (Or.inl ⟨by rfl, ?_⟩) hHeld ?_
    rotate_left
    · intro w hSw; obtain ⟨hS1, hS2⟩ := hSw; go_simp
      try with_reducible rfl
    try simp only [List.getElem_toArray, List.getElem_cons_zero, List.getElem_cons_succ, Act.put, List.setIfInBounds_toArray, List.set_cons_zero, List.set_cons_succ]
    refine wpAnyH_take (i := 3) (v := ?_) rfl (by kernel_rfl) (by kernel_rfl) (by kernel_rfl) (fun _ _ _ h => h) (Or.inl ⟨by rfl, ?_⟩) hHeld ?_
    rotate_left
    · intro w hSw; obtain ⟨hS1, hS2⟩ := hSw; go_simp
      try with_reducible rfl
    try simp only [List.getElem_toArray, List.getElem_cons_zero, List.getElem_cons_succ, Act.put, List.setIfInBounds_toArray, List.set_cons_zero, List.set_cons_succ]
    refine wpAnyH_take (i := 4) (v := ?_) rfl (by kernel_rfl) (by kernel_rfl) (by kernel_rfl) (fun _ _ _ h => h) (Or.inl ⟨by rfl, ?_⟩) hHeld ?_
    rotate_left
    · intro w hSw; obtain ⟨hS1, hS2⟩ := hSw; go_simp
      try with_reducible rfl
    try simp only [List.getElem_toArray, List.getElem_cons_zero, List.getElem_cons_succ, Act.put, List.setIfInBounds_toArray, List.set_cons_zero, List.set_cons_succ]
    refine wpAnyH_take (i := 5) (v := ?_) rfl (by kernel_rfl) (by kernel_rfl) (by kernel_rfl) (fun _ _ _ h => h) (Or.inl ⟨by rfl, ?_⟩) hHeld ?_
    rotate_left
    · intro w hSw; obtain ⟨hS1, hS2⟩ := hSw; go_simp
      try with_reducible rfl
    try simp only [List.getElem_toArray, List.getElem_cons_zero, List.getElem_cons_succ, Act.put, List.setIfInBounds_toArray, List.set_cons_zero, List.set_cons_succ]
    refine wpAnyH_ready (rs := [1, 6]) (by kernel_rfl) (by simp) ?_
    refine AllReadyH.cons rfl (fun K hK => ?_) (AllReadyH.cons rfl (fun K hK => ?_) AllReadyH.nil)
    · clear hHeld
      go_simp
      refine hK.out _ _ ⟨c96, c99⟩ (fun hHeld => ?_)
      clear hK K
      try simp only [List.getElem_toArray, List.getElem_cons_zero, List.getElem_cons_succ, Act.put, List.setIfInBounds_toArray, List.set_cons_zero, List.set_cons_succ]
      refine wpAnyH_ready (rs := [6]) (by kernel_rfl) (by simp) ?_
      refine AllReadyH.cons rfl (fun K hK => ?_) AllReadyH.nil
      clear hHeld
      go_simp
      go_at_call 66
      (with_reducible refine (KF.out _).mono ?_)
      rintro e' w' ⟨rfl, rfl⟩
      refine hK.out _ _ ⟨c96, c99⟩ (fun hHeld => ?_)
      clear hK K
      try simp only [List.getElem_toArray, List.getElem_cons_zero, List.getElem_cons_succ, Act.put, List.setIfInBounds_toArray, List.set_cons_zero, List.set_cons_succ]
      refine wpAnyH_take (i := 7) (v := ?_) rfl (by kernel_rfl) (by kernel_rfl) (by kernel_rfl) (fun _ _ _ h => h) (Or.inl ⟨by rfl, ?_⟩) hHeld ?_
      rotate_left
      · intro w hSw; obtain ⟨hS1, hS2⟩ := hSw; go_simp
        try with_reducible rfl
      try simp only [List.getElem_toArray, List.getElem_cons_zero, List.getElem_cons_succ, Act.put, List.setIfInBounds_toArray, List.set_cons_zero, List.set_cons_succ]
      refine wpAnyH_ready (rs := [8]) (by kernel_rfl) (by simp) ?_
      refine AllReadyH.cons rfl (fun K hK => ?_) AllReadyH.nil
      clear hHeld
      go_simp
      go_at_call 62
      (with_reducible refine (KN.out W2.drew).mono ?_)
      rintro e' w3 ⟨A3, c3, rfl, hO, hB⟩; have M3 : Ms w w3 m2 := MM.out.drew.below hB; have d96 : w3.cell? ⟨w.heap.size, 96, none⟩ = some (.int .i64 m2.ga) := M3.A.cga K2.out; have d99 : w3.cell? ⟨w.heap.size, 99, none⟩ = some (.int .i64 m2.er) := M3.A.cer K2.out; have d100 : w3.cell? ⟨w.heap.size, 100, none⟩ = some (.int .i64 m2.se) := M3.A.cse K2.out; have g100 : w3.frozen? ⟨w.heap.size, 100, none⟩ = false := MB.frozen M3.A 100; have M4 : Ms w (w3.setCell ⟨w.heap.size, 100, none⟩ (.int .i64 (nzE m2.se 40))) { m2 with se := nzE m2.se 40 } := M3.se K2.out (nzE m2.se 40); have h96 : (w3.setCell ⟨w.heap.size, 100, none⟩ (.int .i64 (nzE m2.se 40))).cell? ⟨w.heap.size, 96, none⟩ = some (.int .i64 m2.ga) := M4.A.cga (K2.out.se _); have h99 : (w3.setCell ⟨w.heap.size, 100, none⟩ (.int .i64 (nzE m2.se 40))).cell? ⟨w.heap.size, 99, none⟩ = some (.int .i64 m2.er) := M4.A.cer (K2.out.se _); have M4 := hid M4; have LT3 := hid M3.lt; have O3 := hid hO; clear hO hB
      refine hK.out _ _ ⟨d96, d99⟩ (fun hHeld => ?_)
      clear hK K
      try simp only [List.getElem_toArray, List.getElem_cons_zero, List.getElem_cons_succ, Act.put, List.setIfInBounds_toArray, List.set_cons_zero, List.set_cons_succ]
      refine wpAnyH_take (i := 9) (v := ?_) rfl (by kernel_rfl) (by kernel_rfl) (by kernel_rfl) (fun _ _ _ h => h) (Or.inl ⟨by rfl, ?_⟩) hHeld ?_
      rotate_left
      · intro w hSw; obtain ⟨hS1, hS2⟩ := hSw; go_simp
        try with_reducible rfl
      try simp only [List.getElem_toArray, List.getElem_cons_zero, List.getElem_cons_succ, Act.put, List.setIfInBounds_toArray, List.set_cons_zero, List.set_cons_succ]
      refine wpAnyH_take (i := 10) (v := ?_) rfl (by kernel_rfl) (by kernel_rfl) (by kernel_rfl) (fun _ _ _ h => h) (Or.inl ⟨by rfl, ?_⟩) hHeld ?_
      rotate_left
      · intro w hSw; obtain ⟨hS1, hS2⟩ := hSw; go_simp
        try with_reducible rfl
      try simp only [List.getElem_toArray, List.getElem_cons_zero, List.getElem_cons_succ, Act.put, List.setIfInBounds_toArray, List.set_cons_zero, List.set_cons_succ]
      refine wpAnyH_take (i := 11) (v := ?_) rfl (by kernel_rfl) (by kernel_rfl) (by kernel_rfl) (fun _ _ _ h => h) (Or.inl ⟨by rfl, ?_⟩) hHeld ?_
      rotate_left
      · intro w hSw; obtain ⟨hS1, hS2⟩ := hSw; go_simp
        try with_reducible rfl
      try simp only [List.getElem_toArray, List.getElem_cons_zero, List.getElem_cons_succ, Act.put, List.setIfInBounds_toArray, List.set_cons_zero, List.set_cons_succ]
      refine wpAnyH_take (i := 12) (v := ?_) rfl (by kernel_rfl) (by kernel_rfl) (by kernel_rfl) (fun _ _ _ h => h) (Or.inl ⟨by rfl, ?_⟩) hHeld ?_
      rotate_left
      · intro w hSw; obtain ⟨hS1, hS2⟩ := hSw; go_simp
        try with_reducible rfl
      try simp only [List.getElem_toArray, List.getElem_cons_zero, List.getElem_cons_succ, Act.put, List.setIfInBounds_toArray, List.set_cons_zero, List.set_cons_succ]
      refine wpAnyH_ready (rs := [13]) (by kernel_rfl) (by simp) ?_
      refine AllReadyH.cons rfl (fun K hK => ?_) AllReadyH.nil
      clear hHeld
      go_simp
      refine hK.out _ _ ⟨h96, h99⟩ (fun hHeld => ?_)
      clear hK K
      try simp only [List.getElem_toArray, List.getElem_cons_zero, List.getElem_cons_succ, Act.put, List.setIfInBounds_toArray, List.set_cons_zero, List.set_cons_succ]
      refine wpAnyH_take (i := 14) (v := ?_) rfl (by kernel_rfl) (by kernel_rfl) (by kernel_rfl) (fun _ _ _ h => h) (Or.inl ⟨by rfl, ?_⟩) hHeld ?_
      rotate_left
      · intro w hSw; obtain ⟨hS1, hS2⟩ := hSw; go_simp
        try with_reducible rfl
      try simp only [List.getElem_toArray, List.getElem_cons_zero, List.getElem_cons_succ, Act.put, List.setIfInBounds_toArray, List.set_cons_zero, List.set_cons_succ]
      refine wpAnyH_done (by kernel_rfl) ?_ _
      clear hHeld
      refine NoPanic.normal ?_
      have O4 := hid (show Own (w3.setCell ⟨w.heap.size, 100, none⟩ (.int .i64 (nzE m2.se 40))) (w.heap.size + 2) A3 c3 (nzL m2.se z 40) from Own.setC (O3.out.more (base' := w.heap.size + 2) (by have := MM.out.lt; exact this)) (by omega) 100 _)
      obtain ⟨W4, hW4⟩ : ∃ W4, W4 = w3.setCell ⟨w.heap.size, 100, none⟩ (.int .i64 (nzE m2.se 40)) := ⟨_, rfl⟩
      clear c96 c99 c100 d96 d99 d100 h96 h99 g100 hq hwz MM KN KF
      rw [← hW4] at M4 O4 ⊢
      clear hW4 M3 O3
      have K3 := hid (K2.out.se (nzE m2.se 40))
      have rg4 : W4.rangeAt w.heap.size 16 (ints m2.e) := M4.out.A.E K3.out
      have c98 : W4.cell? ⟨w.heap.size, 98, none⟩ = some (.int .i64 m2.la) := M4.out.A.cla K3.out
      have c97 : W4.cell? ⟨w.heap.size, 97, none⟩ = some (.int .i64 m2.pi) := M4.out.A.cpi K3.out
      have c99 : W4.cell? ⟨w.heap.size, 99, none⟩ = some (.int .i64 m2.er) := M4.out.A.cer K3.out
      have hu80 := Try.underlying40
      have hi80 : (Try.prog.info? 40).map (·.size) = some (ints m2.e).length := by rw [ints_len, K2.out.e]; exact size80k
      have R4 := hid (show Rs W4.drew W4.drew.heap.size A3 (nzL m2.se z 40) from O4.out.reads)
      simp only [Exit.then]
      go_wp2_with fail
      go_region_held3 (fun w' => w'.rangeAt w.heap.size 16 (ints m2.e) ∧ w'.cell? ⟨w.heap.size, 98, none⟩ = some (.int .i64 m2.la) ∧ w'.cell? ⟨w.heap.size, 97, none⟩ = some (.int .i64 m2.pi) ∧ w'.cell? ⟨w.heap.size, 99, none⟩ = some (.int .i64 m2.er)) (first | exact ⟨by assumption, by assumption, by assumption, by assumption⟩ | go_keep) (first
        | (go_at_call 66; (with_reducible refine (KG.out _).mono ?_); rintro e' w' ⟨rfl, rfl⟩)
        | (go_at_call 28; (with_reducible refine (KM.out W4.drew A3 c3 R4.out).mono ?_); rintro e' w5 ⟨A5, c5, rfl, hO, hB⟩; have M5 : Ms w w5 { m2 with se := nzE m2.se 40 } := M4.out.drew.below hB; have rg5 : w5.rangeAt w.heap.size 16 (ints m2.e) := M5.A.E K3.out; have d98 : w5.cell? ⟨w.heap.size, 98, none⟩ = some (.int .i64 m2.la) := M5.A.cla K3.out; have d97 : w5.cell? ⟨w.heap.size, 97, none⟩ = some (.int .i64 m2.pi) := M5.A.cpi K3.out; have d99 : w5.cell? ⟨w.heap.size, 99, none⟩ = some (.int .i64 m2.er) := M5.A.cer K3.out; have M5 := hid M5; have O5 := hid (hO.more (base' := w.heap.size + 2) (by have := M4.out.lt; exact this)); clear hO hB))
      rename_i hHeldZ
      clear hHeldZ
      clear rg4 c98 c97 c99 rg5 d98 d97 d99 hu80 M4 O4 R4 KM KG
      have KL := hid (keepL_len K2.out.e XL.out)
      have KK := hid (fun W A c (h : Rs W W.heap.size A x) => show Calls Try.prog 30 #[.agg (ints m2.e).toArray, .slice A 40 c] W (Keeps W m2.e x 40) from keep_any m2.e _ A c 40 W K2.out.e h XL.out (by omega))
      have HI80 := hid hi80
      clear hi80
      simp only [Exit.then]
      go_wp2_with (refine wpList_load_mid rfl 40 (.tmp 61) rfl _ _ rfl (ints m2.e) _ (M5.out.A.E K3.out) Try.underlying40 rfl HI80.out ?_)
      refine (KK.out w5 A5 c5 O5.out.reads).mono ?_
      rintro e w6 ⟨rfl, hB⟩
      have M6 := hid (M5.out.below hB)
      have O6 := hid (O5.out.below hB)
      clear hB M5 O5 KK
      have hKE := hid (show keepA m2.e x 40 = keepL m2.e x from rfl)
      rw [hKE.out]
      have M7 := hid (M6.out.ex K3.out _ KL.out)
      have O7 := hid (Own.setCs (g := w.heap.size) (by omega) (ints (keepL m2.e x)) 16 _ O6.out)
      have SZ := hid (show (Try.prog.info? 40).map (·.size) = some (agi (keepL m2.e x)).size from by rw [agi_size, KL.out]; exact size80k)
      have TH := hid (show w6.there w.heap.size 16 (agi (keepL m2.e x)).size from by rw [agi_size, KL.out]; exact M6.out.A.thereE K3.out)
      have OKS := hid (show (eraN m2).ok by rw [EN.out]; exact (K3.out.ex KL.out))
      obtain ⟨w7, hw7⟩ : ∃ w7, w7 = w6.setCells w.heap.size 16 (ints (keepL m2.e x)) := ⟨_, rfl⟩
      rw [← hw7] at M7 O7
      have HW7 := hid hw7
      have T7 := hid (show Ms w w7 (eraN m2) by rw [EN.out]; exact M7.out)
      clear hw7 M7 EN
      have hRow := hid (MB.setRow T7.out.R (eraN m2))
      have FIN := hid (below_setRow T7.out.bel (g := w.heap.size + 1) (by omega) (eraN m2).ag)
      have OF := hid ((O7.out.setRow (g := w.heap.size + 1) (by omega) (eraN m2).ag).more (base' := w.heap.size) (by omega))
      go_wp2_with (first
        | (refine wpList_store_mid rfl 40 (.tmp 67) (.tmp 65) rfl w.heap.size 16 (agi (keepL m2.e x)) rfl rfl TH.out SZ.out (agi_one _) ?_; rw [show (agi (keepL m2.e x)).toList = ints (keepL m2.e x) from rfl, ← HW7.out])
        | (refine wpList_loadM rfl (.tmp 2) rfl _ (eraN m2) rfl T7.out.A OKS.out ?_)
        | (refine wpList_storeM rfl (.tmp 4) (.tmp 68) rfl _ zeroM (eraN m2) rfl rfl T7.out.R zeroM_ok OKS.out ?_))
      refine bodyPost_ret (v := _) (hR _ _ _ (eraN m2) rfl hRow.out OKS.out) rfl ?_
      rw [FR.out, FY.out, HE.out]
      exact ⟨A5, c5, by rw [XL.out]; rfl, OF.out, FIN.out⟩

    · clear hHeld
      go_simp
      go_at_call 66
      (with_reducible refine (KF.out _).mono ?_)
      rintro e' w' ⟨rfl, rfl⟩
      refine hK.out _ _ ⟨c96, c99⟩ (fun hHeld => ?_)
      clear hK K
      try simp only [List.getElem_toArray, List.getElem_cons_zero, List.getElem_cons_succ, Act.put, List.setIfInBounds_toArray, List.set_cons_zero, List.set_cons_succ]
      refine wpAnyH_take (i := 7) (v := ?_) rfl (by kernel_rfl) (by kernel_rfl) (by kernel_rfl) (fun _ _ _ h => h) (Or.inl ⟨by rfl, ?_⟩) hHeld ?_
      rotate_left
      · intro w hSw; obtain ⟨hS1, hS2⟩ := hSw; go_simp
        try with_reducible rfl
      try simp only [List.getElem_toArray, List.getElem_cons_zero, List.getElem_cons_succ, Act.put, List.setIfInBounds_toArray, List.set_cons_zero, List.set_cons_succ]
      refine wpAnyH_ready (rs := [1]) (by kernel_rfl) (by simp) ?_
      refine AllReadyH.cons rfl (fun K hK => ?_) AllReadyH.nil
      clear hHeld
      go_simp
      refine hK.out _ _ ⟨c96, c99⟩ (fun hHeld => ?_)
      clear hK K
      try simp only [List.getElem_toArray, List.getElem_cons_zero, List.getElem_cons_succ, Act.put, List.setIfInBounds_toArray, List.set_cons_zero, List.set_cons_succ]
      refine wpAnyH_ready (rs := [8]) (by kernel_rfl) (by simp) ?_
      refine AllReadyH.cons rfl (fun K hK => ?_) AllReadyH.nil
      clear hHeld
      go_simp
      go_at_call 62
      (with_reducible refine (KN.out W2.drew).mono ?_)
      rintro e' w3 ⟨A3, c3, rfl, hO, hB⟩; have M3 : Ms w w3 m2 := MM.out.drew.below hB; have d96 : w3.cell? ⟨w.heap.size, 96, none⟩ = some (.int .i64 m2.ga) := M3.A.cga K2.out; have d99 : w3.cell? ⟨w.heap.size, 99, none⟩ = some (.int .i64 m2.er) := M3.A.cer K2.out; have d100 : w3.cell? ⟨w.heap.size, 100, none⟩ = some (.int .i64 m2.se) := M3.A.cse K2.out; have g100 : w3.frozen? ⟨w.heap.size, 100, none⟩ = false := MB.frozen M3.A 100; have M4 : Ms w (w3.setCell ⟨w.heap.size, 100, none⟩ (.int .i64 (nzE m2.se 40))) { m2 with se := nzE m2.se 40 } := M3.se K2.out (nzE m2.se 40); have h96 : (w3.setCell ⟨w.heap.size, 100, none⟩ (.int .i64 (nzE m2.se 40))).cell? ⟨w.heap.size, 96, none⟩ = some (.int .i64 m2.ga) := M4.A.cga (K2.out.se _); have h99 : (w3.setCell ⟨w.heap.size, 100, none⟩ (.int .i64 (nzE m2.se 40))).cell? ⟨w.heap.size, 99, none⟩ = some (.int .i64 m2.er) := M4.A.cer (K2.out.se _); have M4 := hid M4; have LT3 := hid M3.lt; have O3 := hid hO; clear hO hB
      refine hK.out _ _ ⟨d96, d99⟩ (fun hHeld => ?_)
      clear hK K
      try simp only [List.getElem_toArray, List.getElem_cons_zero, List.getElem_cons_succ, Act.put, List.setIfInBounds_toArray, List.set_cons_zero, List.set_cons_succ]
      refine wpAnyH_take (i := 9) (v := ?_) rfl (by kernel_rfl) (by kernel_rfl) (by kernel_rfl) (fun _ _ _ h => h) (Or.inl ⟨by rfl, ?_⟩) hHeld ?_
      rotate_left
      · intro w hSw; obtain ⟨hS1, hS2⟩ := hSw; go_simp
        try with_reducible rfl
      try simp only [List.getElem_toArray, List.getElem_cons_zero, List.getElem_cons_succ, Act.put, List.setIfInBounds_toArray, List.set_cons_zero, List.set_cons_succ]
      refine wpAnyH_take (i := 10) (v := ?_) rfl (by kernel_rfl) (by kernel_rfl) (by kernel_rfl) (fun _ _ _ h => h) (Or.inl ⟨by rfl, ?_⟩) hHeld ?_
      rotate_left
      · intro w hSw; obtain ⟨hS1, hS2⟩ := hSw; go_simp
        try with_reducible rfl
      try simp only [List.getElem_toArray, List.getElem_cons_zero, List.getElem_cons_succ, Act.put, List.setIfInBounds_toArray, List.set_cons_zero, List.set_cons_succ]
      refine wpAnyH_take (i := 11) (v := ?_) rfl (by kernel_rfl) (by kernel_rfl) (by kernel_rfl) (fun _ _ _ h => h) (Or.inl ⟨by rfl, ?_⟩) hHeld ?_
      rotate_left
      · intro w hSw; obtain ⟨hS1, hS2⟩ := hSw; go_simp
        try with_reducible rfl
      try simp only [List.getElem_toArray, List.getElem_cons_zero, List.getElem_cons_succ, Act.put, List.setIfInBounds_toArray, List.set_cons_zero, List.set_cons_succ]
      refine wpAnyH_take (i := 12) (v := ?_) rfl (by kernel_rfl) (by kernel_rfl) (by kernel_rfl) (fun _ _ _ h => h) (Or.inl ⟨by rfl, ?_⟩) hHeld ?_
      rotate_left
      · intro w hSw; obtain ⟨hS1, hS2⟩ := hSw; go_simp
        try with_reducible rfl
      try simp only [List.getElem_toArray, List.getElem_cons_zero, List.getElem_cons_succ, Act.put, List.setIfInBounds_toArray, List.set_cons_zero, List.set_cons_succ]
      refine wpAnyH_ready (rs := [13]) (by kernel_rfl) (by simp) ?_
      refine AllReadyH.cons rfl (fun K hK => ?_) AllReadyH.nil
      clear hHeld
      go_simp
      refine hK.out _ _ ⟨h96, h99⟩ (fun hHeld => ?_)
      clear hK K
      try simp only [List.getElem_toArray, List.getElem_cons_zero, List.getElem_cons_succ, Act.put, List.setIfInBounds_toArray, List.set_cons_zero, List.set_cons_succ]
      refine wpAnyH_take (i := 14) (v := ?_) rfl (by kernel_rfl) (by kernel_rfl) (by kernel_rfl) (fun _ _ _ h => h) (Or.inl ⟨by rfl, ?_⟩) hHeld ?_
      rotate_left
      · intro w hSw; obtain ⟨hS1, hS2⟩ := hSw; go_simp
        try with_reducible rfl
      try simp only [List.getElem_toArray, List.getElem_cons_zero, List.getElem_cons_succ, Act.put, List.setIfInBounds_toArray, List.set_cons_zero, List.set_cons_succ]
      refine wpAnyH_done (by kernel_rfl) ?_ _
      clear hHeld
      refine NoPanic.normal ?_
      have O4 := hid (show Own (w3.setCell ⟨w.heap.size, 100, none⟩ (.int .i64 (nzE m2.se 40))) (w.heap.size + 2) A3 c3 (nzL m2.se z 40) from Own.setC (O3.out.more (base' := w.heap.size + 2) (by have := MM.out.lt; exact this)) (by omega) 100 _)
      obtain ⟨W4, hW4⟩ : ∃ W4, W4 = w3.setCell ⟨w.heap.size, 100, none⟩ (.int .i64 (nzE m2.se 40)) := ⟨_, rfl⟩
      clear c96 c99 c100 d96 d99 d100 h96 h99 g100 hq hwz MM KN KF
      rw [← hW4] at M4 O4 ⊢
      clear hW4 M3 O3
      have K3 := hid (K2.out.se (nzE m2.se 40))
      have rg4 : W4.rangeAt w.heap.size 16 (ints m2.e) := M4.out.A.E K3.out
      have c98 : W4.cell? ⟨w.heap.size, 98, none⟩ = some (.int .i64 m2.la) := M4.out.A.cla K3.out
      have c97 : W4.cell? ⟨w.heap.size, 97, none⟩ = some (.int .i64 m2.pi) := M4.out.A.cpi K3.out
      have c99 : W4.cell? ⟨w.heap.size, 99, none⟩ = some (.int .i64 m2.er) := M4.out.A.cer K3.out
      have hu80 := Try.underlying40
      have hi80 : (Try.prog.info? 40).map (·.size) = some (ints m2.e).length := by rw [ints_len, K2.out.e]; exact size80k
      have R4 := hid (show Rs W4.drew W4.drew.heap.size A3 (nzL m2.se z 40) from O4.out.reads)
      simp only [Exit.then]
      go_wp2_with fail
      go_region_held3 (fun w' => w'.rangeAt w.heap.size 16 (ints m2.e) ∧ w'.cell? ⟨w.heap.size, 98, none⟩ = some (.int .i64 m2.la) ∧ w'.cell? ⟨w.heap.size, 97, none⟩ = some (.int .i64 m2.pi) ∧ w'.cell? ⟨w.heap.size, 99, none⟩ = some (.int .i64 m2.er)) (first | exact ⟨by assumption, by assumption, by assumption, by assumption⟩ | go_keep) (first
        | (go_at_call 66; (with_reducible refine (KG.out _).mono ?_); rintro e' w' ⟨rfl, rfl⟩)
        | (go_at_call 28; (with_reducible refine (KM.out W4.drew A3 c3 R4.out).mono ?_); rintro e' w5 ⟨A5, c5, rfl, hO, hB⟩; have M5 : Ms w w5 { m2 with se := nzE m2.se 40 } := M4.out.drew.below hB; have rg5 : w5.rangeAt w.heap.size 16 (ints m2.e) := M5.A.E K3.out; have d98 : w5.cell? ⟨w.heap.size, 98, none⟩ = some (.int .i64 m2.la) := M5.A.cla K3.out; have d97 : w5.cell? ⟨w.heap.size, 97, none⟩ = some (.int .i64 m2.pi) := M5.A.cpi K3.out; have d99 : w5.cell? ⟨w.heap.size, 99, none⟩ = some (.int .i64 m2.er) := M5.A.cer K3.out; have M5 := hid M5; have O5 := hid (hO.more (base' := w.heap.size + 2) (by have := M4.out.lt; exact this)); clear hO hB))
      rename_i hHeldZ
      clear hHeldZ
      clear rg4 c98 c97 c99 rg5 d98 d97 d99 hu80 M4 O4 R4 KM KG
      have KL := hid (keepL_len K2.out.e XL.out)
      have KK := hid (fun W A c (h : Rs W W.heap.size A x) => show Calls Try.prog 30 #[.agg (ints m2.e).toArray, .slice A 40 c] W (Keeps W m2.e x 40) from keep_any m2.e _ A c 40 W K2.out.e h XL.out (by omega))
      have HI80 := hid hi80
      clear hi80
      simp only [Exit.then]
      go_wp2_with (refine wpList_load_mid rfl 40 (.tmp 61) rfl _ _ rfl (ints m2.e) _ (M5.out.A.E K3.out) Try.underlying40 rfl HI80.out ?_)
      refine (KK.out w5 A5 c5 O5.out.reads).mono ?_
      rintro e w6 ⟨rfl, hB⟩
      have M6 := hid (M5.out.below hB)
      have O6 := hid (O5.out.below hB)
      clear hB M5 O5 KK
      have hKE := hid (show keepA m2.e x 40 = keepL m2.e x from rfl)
      rw [hKE.out]
      have M7 := hid (M6.out.ex K3.out _ KL.out)
      have O7 := hid (Own.setCs (g := w.heap.size) (by omega) (ints (keepL m2.e x)) 16 _ O6.out)
      have SZ := hid (show (Try.prog.info? 40).map (·.size) = some (agi (keepL m2.e x)).size from by rw [agi_size, KL.out]; exact size80k)
      have TH := hid (show w6.there w.heap.size 16 (agi (keepL m2.e x)).size from by rw [agi_size, KL.out]; exact M6.out.A.thereE K3.out)
      have OKS := hid (show (eraN m2).ok by rw [EN.out]; exact (K3.out.ex KL.out))
      obtain ⟨w7, hw7⟩ : ∃ w7, w7 = w6.setCells w.heap.size 16 (ints (keepL m2.e x)) := ⟨_, rfl⟩
      rw [← hw7] at M7 O7
      have HW7 := hid hw7
      have T7 := hid (show Ms w w7 (eraN m2) by rw [EN.out]; exact M7.out)
      clear hw7 M7 EN
      have hRow := hid (MB.setRow T7.out.R (eraN m2))
      have FIN := hid (below_setRow T7.out.bel (g := w.heap.size + 1) (by omega) (eraN m2).ag)
      have OF := hid ((O7.out.setRow (g := w.heap.size + 1) (by omega) (eraN m2).ag).more (base' := w.heap.size) (by omega))
      go_wp2_with (first
        | (refine wpList_store_mid rfl 40 (.tmp 67) (.tmp 65) rfl w.heap.size 16 (agi (keepL m2.e x)) rfl rfl TH.out SZ.out (agi_one _) ?_; rw [show (agi (keepL m2.e x)).toList = ints (keepL m2.e x) from rfl, ← HW7.out])
        | (refine wpList_loadM rfl (.tmp 2) rfl _ (eraN m2) rfl T7.out.A OKS.out ?_)
        | (refine wpList_storeM rfl (.tmp 4) (.tmp 68) rfl _ zeroM (eraN m2) rfl rfl T7.out.R zeroM_ok OKS.out ?_))
      refine bodyPost_ret (v := _) (hR _ _ _ (eraN m2) rfl hRow.out OKS.out) rfl ?_
      rw [FR.out, FY.out, HE.out]
      exact ⟨A5, c5, by rw [XL.out]; rfl, OF.out, FIN.out⟩
  · have MM := hid (show Ms w w1 m2 by
      rw [hm2]
      unfold eraP er1
      rw [if_neg (by omega)]
      exact S1.out)
    clear hm2 h1 h2 a5 f5
    go_wp2_with fail
    obtain ⟨W2, hW2⟩ : ∃ W2, W2 = w1 := ⟨_, rfl⟩
    rw [← hW2] at MM ⊢
    clear hW2 
    have c96 : W2.cell? ⟨w.heap.size, 96, none⟩ = some (.int .i64 m2.ga) := MM.out.A.cga K2.out
    have c99 : W2.cell? ⟨w.heap.size, 99, none⟩ = some (.int .i64 m2.er) := MM.out.A.cer K2.out
    have c100 : W2.cell? ⟨w.heap.size, 100, none⟩ = some (.int .i64 m2.se) := MM.out.A.cse K2.out
    have KN := hid (fun W => show Calls Try.prog 62 #[.int .i64 m2.se, .int .i64 (eraZ m2), .int .i64 40] W (NzA W m2.se (eraZ m2) 40) from cnoise_any m2.se (eraZ m2) 40 W (by omega))
    have KM := hid (fun W A c (hr : Rs W W.heap.size A (nzL m2.se (eraZ m2) 40)) => show Calls Try.prog 28 #[.agg (ints m2.e).toArray, .int .i64 m2.la, .int .i64 (fade m2.pi m2.er), .slice A 40 c] W (fun e w' => ∃ A c, e = .returned (.tuple #[.slice A 40 c, .int .i64 0]) ∧ Own w' W.heap.size A c (eraX m2) ∧ Below W.heap.size W w') from by
      refine (mix_any m2.e _ m2.la (fade m2.pi m2.er) A c 40 W K2.out.e hr (nzL_len _ _ _) (by omega)).mono ?_
      rintro e w' ⟨A', c', h1, h2, h3⟩
      rw [(mx_good (h := m2.e) (x := nzL m2.se (eraZ m2) 40) (eraX_good HLA.out)).2] at h1
      have hl := eraX_len HLA.out
      unfold eraX at hl
      rw [hl] at h1
      exact ⟨A', c', h1, h2, h3⟩)
    have XL := hid (eraX_len HLA.out)
    have EN := hid (show eraN m2 = { m2 with se := nzE m2.se 40, e := keepL m2.e (eraX m2) } from rfl)
    have KF0 := fun W => fade_any m2.ga m2.er W
    have KG0 := fun W => fade_any m2.pi m2.er W
    have fb := fade_range m2.ga m2.er
    have hwz : IntKind.i64.wrap (eraZ m2) = eraZ m2 := by unfold eraZ; rw [IntKind.wrap_i64]; omega
    have hq : (fade m2.ga m2.er).tdiv 4 = eraZ m2 := by unfold eraZ; exact Int.tdiv_eq_ediv_of_nonneg fb.1
    generalize eraX m2 = x at *
    generalize eraZ m2 = z at *
    generalize fade m2.ga m2.er = f at *
    generalize fade m2.pi m2.er = f2 at *
    have KF := hid KF0
    have KG := hid KG0
    clear KF0 KG0 fb
    refine wp_region_noPanic ?_
    refine wp_region_held_drew (S := fun w' => w'.cell? ⟨w.heap.size, 96, none⟩ = some (.int .i64 m2.ga) ∧ w'.cell? ⟨w.heap.size, 99, none⟩ = some (.int .i64 m2.er)) (by kernel_rfl) ⟨c96, c99⟩ (fun hHeld => ?_)
    refine wpAnyH_take (i := 0) (v := ?_) rfl (by kernel_rfl) (by kernel_rfl) (by kernel_rfl) (fun _ _ _ h => h) (Or.inl ⟨by rfl, ?_⟩) hHeld ?_
    rotate_left
    · intro w hSw; obtain ⟨hS1, hS2⟩ := hSw; go_simp
      try with_reducible rfl
    try simp only [List.getElem_toArray, List.getElem_cons_zero, List.getElem_cons_succ, Act.put, List.setIfInBounds_toArray, List.set_cons_zero, List.set_cons_succ]
    refine wpAnyH_take (i := 2) (v := ?_) rfl (by kernel_rfl) (by kernel_rfl) (by kernel_rfl) (fun _ _ _ h => h) (Or.inl ⟨by rfl, ?_⟩) hHeld ?_
    rotate_left
    · intro w hSw; obtain ⟨hS1, hS2⟩ := hSw; go_simp
      try with_reducible rfl
    try simp only [List.getElem_toArray, List.getElem_cons_zero, List.getElem_cons_succ, Act.put, List.setIfInBounds_toArray, List.set_cons_zero, List.set_cons_succ]
    refine wpAnyH_take (i := 3) (v := ?_) rfl (by kernel_rfl) (by kernel_rfl) (by kernel_rfl) (fun _ _ _ h => h) (Or.inl ⟨by rfl, ?_⟩) hHeld ?_
    rotate_left
    · intro w hSw; obtain ⟨hS1, hS2⟩ := hSw; go_simp
      try with_reducible rfl
    try simp only [List.getElem_toArray, List.getElem_cons_zero, List.getElem_cons_succ, Act.put, List.setIfInBounds_toArray, List.set_cons_zero, List.set_cons_succ]
    refine wpAnyH_take (i := 4) (v := ?_) rfl (by kernel_rfl) (by kernel_rfl) (by kernel_rfl) (fun _ _ _ h => h) (Or.inl ⟨by rfl, ?_⟩) hHeld ?_
    rotate_left
    · intro w hSw; obtain ⟨hS1, hS2⟩ := hSw; go_simp
      try with_reducible rfl
    try simp only [List.getElem_toArray, List.getElem_cons_zero, List.getElem_cons_succ, Act.put, List.setIfInBounds_toArray, List.set_cons_zero, List.set_cons_succ]
    refine wpAnyH_take (i := 5) (v := ?_) rfl (by kernel_rfl) (by kernel_rfl) (by kernel_rfl) (fun _ _ _ h => h) (Or.inl ⟨by rfl, ?_⟩) hHeld ?_
    rotate_left
    · intro w hSw; obtain ⟨hS1, hS2⟩ := hSw; go_simp
      try with_reducible rfl
    try simp only [List.getElem_toArray, List.getElem_cons_zero, List.getElem_cons_succ, Act.put, List.setIfInBounds_toArray, List.set_cons_zero, List.set_cons_succ]
    refine wpAnyH_ready (rs := [1, 6]) (by kernel_rfl) (by simp) ?_
    refine AllReadyH.cons rfl (fun K hK => ?_) (AllReadyH.cons rfl (fun K hK => ?_) AllReadyH.nil)
    · clear hHeld
      go_simp
      refine hK.out _ _ ⟨c96, c99⟩ (fun hHeld => ?_)
      clear hK K
      try simp only [List.getElem_toArray, List.getElem_cons_zero, List.getElem_cons_succ, Act.put, List.setIfInBounds_toArray, List.set_cons_zero, List.set_cons_succ]
      refine wpAnyH_ready (rs := [6]) (by kernel_rfl) (by simp) ?_
      refine AllReadyH.cons rfl (fun K hK => ?_) AllReadyH.nil
      clear hHeld
      go_simp
      go_at_call 66
      (with_reducible refine (KF.out _).mono ?_)
      rintro e' w' ⟨rfl, rfl⟩
      refine hK.out _ _ ⟨c96, c99⟩ (fun hHeld => ?_)
      clear hK K
      try simp only [List.getElem_toArray, List.getElem_cons_zero, List.getElem_cons_succ, Act.put, List.setIfInBounds_toArray, List.set_cons_zero, List.set_cons_succ]
      refine wpAnyH_take (i := 7) (v := ?_) rfl (by kernel_rfl) (by kernel_rfl) (by kernel_rfl) (fun _ _ _ h => h) (Or.inl ⟨by rfl, ?_⟩) hHeld ?_
      rotate_left
      · intro w hSw; obtain ⟨hS1, hS2⟩ := hSw; go_simp
        try with_reducible rfl
      try simp only [List.getElem_toArray, List.getElem_cons_zero, List.getElem_cons_succ, Act.put, List.setIfInBounds_toArray, List.set_cons_zero, List.set_cons_succ]
      refine wpAnyH_ready (rs := [8]) (by kernel_rfl) (by simp) ?_
      refine AllReadyH.cons rfl (fun K hK => ?_) AllReadyH.nil
      clear hHeld
      go_simp
      go_at_call 62
      (with_reducible refine (KN.out W2.drew).mono ?_)
      rintro e' w3 ⟨A3, c3, rfl, hO, hB⟩; have M3 : Ms w w3 m2 := MM.out.drew.below hB; have d96 : w3.cell? ⟨w.heap.size, 96, none⟩ = some (.int .i64 m2.ga) := M3.A.cga K2.out; have d99 : w3.cell? ⟨w.heap.size, 99, none⟩ = some (.int .i64 m2.er) := M3.A.cer K2.out; have d100 : w3.cell? ⟨w.heap.size, 100, none⟩ = some (.int .i64 m2.se) := M3.A.cse K2.out; have g100 : w3.frozen? ⟨w.heap.size, 100, none⟩ = false := MB.frozen M3.A 100; have M4 : Ms w (w3.setCell ⟨w.heap.size, 100, none⟩ (.int .i64 (nzE m2.se 40))) { m2 with se := nzE m2.se 40 } := M3.se K2.out (nzE m2.se 40); have h96 : (w3.setCell ⟨w.heap.size, 100, none⟩ (.int .i64 (nzE m2.se 40))).cell? ⟨w.heap.size, 96, none⟩ = some (.int .i64 m2.ga) := M4.A.cga (K2.out.se _); have h99 : (w3.setCell ⟨w.heap.size, 100, none⟩ (.int .i64 (nzE m2.se 40))).cell? ⟨w.heap.size, 99, none⟩ = some (.int .i64 m2.er) := M4.A.cer (K2.out.se _); have M4 := hid M4; have LT3 := hid M3.lt; have O3 := hid hO; clear hO hB
      refine hK.out _ _ ⟨d96, d99⟩ (fun hHeld => ?_)
      clear hK K
      try simp only [List.getElem_toArray, List.getElem_cons_zero, List.getElem_cons_succ, Act.put, List.setIfInBounds_toArray, List.set_cons_zero, List.set_cons_succ]
      refine wpAnyH_take (i := 9) (v := ?_) rfl (by kernel_rfl) (by kernel_rfl) (by kernel_rfl) (fun _ _ _ h => h) (Or.inl ⟨by rfl, ?_⟩) hHeld ?_
      rotate_left
      · intro w hSw; obtain ⟨hS1, hS2⟩ := hSw; go_simp
        try with_reducible rfl
      try simp only [List.getElem_toArray, List.getElem_cons_zero, List.getElem_cons_succ, Act.put, List.setIfInBounds_toArray, List.set_cons_zero, List.set_cons_succ]
      refine wpAnyH_take (i := 10) (v := ?_) rfl (by kernel_rfl) (by kernel_rfl) (by kernel_rfl) (fun _ _ _ h => h) (Or.inl ⟨by rfl, ?_⟩) hHeld ?_
      rotate_left
      · intro w hSw; obtain ⟨hS1, hS2⟩ := hSw; go_simp
        try with_reducible rfl
      try simp only [List.getElem_toArray, List.getElem_cons_zero, List.getElem_cons_succ, Act.put, List.setIfInBounds_toArray, List.set_cons_zero, List.set_cons_succ]
      refine wpAnyH_take (i := 11) (v := ?_) rfl (by kernel_rfl) (by kernel_rfl) (by kernel_rfl) (fun _ _ _ h => h) (Or.inl ⟨by rfl, ?_⟩) hHeld ?_
      rotate_left
      · intro w hSw; obtain ⟨hS1, hS2⟩ := hSw; go_simp
        try with_reducible rfl
      try simp only [List.getElem_toArray, List.getElem_cons_zero, List.getElem_cons_succ, Act.put, List.setIfInBounds_toArray, List.set_cons_zero, List.set_cons_succ]
      refine wpAnyH_take (i := 12) (v := ?_) rfl (by kernel_rfl) (by kernel_rfl) (by kernel_rfl) (fun _ _ _ h => h) (Or.inl ⟨by rfl, ?_⟩) hHeld ?_
      rotate_left
      · intro w hSw; obtain ⟨hS1, hS2⟩ := hSw; go_simp
        try with_reducible rfl
      try simp only [List.getElem_toArray, List.getElem_cons_zero, List.getElem_cons_succ, Act.put, List.setIfInBounds_toArray, List.set_cons_zero, List.set_cons_succ]
      refine wpAnyH_ready (rs := [13]) (by kernel_rfl) (by simp) ?_
      refine AllReadyH.cons rfl (fun K hK => ?_) AllReadyH.nil
      clear hHeld
      go_simp
      refine hK.out _ _ ⟨h96, h99⟩ (fun hHeld => ?_)
      clear hK K
      try simp only [List.getElem_toArray, List.getElem_cons_zero, List.getElem_cons_succ, Act.put, List.setIfInBounds_toArray, List.set_cons_zero, List.set_cons_succ]
      refine wpAnyH_take (i := 14) (v := ?_) rfl (by kernel_rfl) (by kernel_rfl) (by kernel_rfl) (fun _ _ _ h => h) (Or.inl ⟨by rfl, ?_⟩) hHeld ?_
      rotate_left
      · intro w hSw; obtain ⟨hS1, hS2⟩ := hSw; go_simp
        try with_reducible rfl
      try simp only [List.getElem_toArray, List.getElem_cons_zero, List.getElem_cons_succ, Act.put, List.setIfInBounds_toArray, List.set_cons_zero, List.set_cons_succ]
      refine wpAnyH_done (by kernel_rfl) ?_ _
      clear hHeld
      refine NoPanic.normal ?_
      have O4 := hid (show Own (w3.setCell ⟨w.heap.size, 100, none⟩ (.int .i64 (nzE m2.se 40))) (w.heap.size + 2) A3 c3 (nzL m2.se z 40) from Own.setC (O3.out.more (base' := w.heap.size + 2) (by have := MM.out.lt; exact this)) (by omega) 100 _)
      obtain ⟨W4, hW4⟩ : ∃ W4, W4 = w3.setCell ⟨w.heap.size, 100, none⟩ (.int .i64 (nzE m2.se 40)) := ⟨_, rfl⟩
      clear c96 c99 c100 d96 d99 d100 h96 h99 g100 hq hwz MM KN KF
      rw [← hW4] at M4 O4 ⊢
      clear hW4 M3 O3
      have K3 := hid (K2.out.se (nzE m2.se 40))
      have rg4 : W4.rangeAt w.heap.size 16 (ints m2.e) := M4.out.A.E K3.out
      have c98 : W4.cell? ⟨w.heap.size, 98, none⟩ = some (.int .i64 m2.la) := M4.out.A.cla K3.out
      have c97 : W4.cell? ⟨w.heap.size, 97, none⟩ = some (.int .i64 m2.pi) := M4.out.A.cpi K3.out
      have c99 : W4.cell? ⟨w.heap.size, 99, none⟩ = some (.int .i64 m2.er) := M4.out.A.cer K3.out
      have hu80 := Try.underlying40
      have hi80 : (Try.prog.info? 40).map (·.size) = some (ints m2.e).length := by rw [ints_len, K2.out.e]; exact size80k
      have R4 := hid (show Rs W4.drew W4.drew.heap.size A3 (nzL m2.se z 40) from O4.out.reads)
      simp only [Exit.then]
      go_wp2_with fail
      go_region_held3 (fun w' => w'.rangeAt w.heap.size 16 (ints m2.e) ∧ w'.cell? ⟨w.heap.size, 98, none⟩ = some (.int .i64 m2.la) ∧ w'.cell? ⟨w.heap.size, 97, none⟩ = some (.int .i64 m2.pi) ∧ w'.cell? ⟨w.heap.size, 99, none⟩ = some (.int .i64 m2.er)) (first | exact ⟨by assumption, by assumption, by assumption, by assumption⟩ | go_keep) (first
        | (go_at_call 66; (with_reducible refine (KG.out _).mono ?_); rintro e' w' ⟨rfl, rfl⟩)
        | (go_at_call 28; (with_reducible refine (KM.out W4.drew A3 c3 R4.out).mono ?_); rintro e' w5 ⟨A5, c5, rfl, hO, hB⟩; have M5 : Ms w w5 { m2 with se := nzE m2.se 40 } := M4.out.drew.below hB; have rg5 : w5.rangeAt w.heap.size 16 (ints m2.e) := M5.A.E K3.out; have d98 : w5.cell? ⟨w.heap.size, 98, none⟩ = some (.int .i64 m2.la) := M5.A.cla K3.out; have d97 : w5.cell? ⟨w.heap.size, 97, none⟩ = some (.int .i64 m2.pi) := M5.A.cpi K3.out; have d99 : w5.cell? ⟨w.heap.size, 99, none⟩ = some (.int .i64 m2.er) := M5.A.cer K3.out; have M5 := hid M5; have O5 := hid (hO.more (base' := w.heap.size + 2) (by have := M4.out.lt; exact this)); clear hO hB))
      rename_i hHeldZ
      clear hHeldZ
      clear rg4 c98 c97 c99 rg5 d98 d97 d99 hu80 M4 O4 R4 KM KG
      have KL := hid (keepL_len K2.out.e XL.out)
      have KK := hid (fun W A c (h : Rs W W.heap.size A x) => show Calls Try.prog 30 #[.agg (ints m2.e).toArray, .slice A 40 c] W (Keeps W m2.e x 40) from keep_any m2.e _ A c 40 W K2.out.e h XL.out (by omega))
      have HI80 := hid hi80
      clear hi80
      simp only [Exit.then]
      go_wp2_with (refine wpList_load_mid rfl 40 (.tmp 61) rfl _ _ rfl (ints m2.e) _ (M5.out.A.E K3.out) Try.underlying40 rfl HI80.out ?_)
      refine (KK.out w5 A5 c5 O5.out.reads).mono ?_
      rintro e w6 ⟨rfl, hB⟩
      have M6 := hid (M5.out.below hB)
      have O6 := hid (O5.out.below hB)
      clear hB M5 O5 KK
      have hKE := hid (show keepA m2.e x 40 = keepL m2.e x from rfl)
      rw [hKE.out]
      have M7 := hid (M6.out.ex K3.out _ KL.out)
      have O7 := hid (Own.setCs (g := w.heap.size) (by omega) (ints (keepL m2.e x)) 16 _ O6.out)
      have SZ := hid (show (Try.prog.info? 40).map (·.size) = some (agi (keepL m2.e x)).size from by rw [agi_size, KL.out]; exact size80k)
      have TH := hid (show w6.there w.heap.size 16 (agi (keepL m2.e x)).size from by rw [agi_size, KL.out]; exact M6.out.A.thereE K3.out)
      have OKS := hid (show (eraN m2).ok by rw [EN.out]; exact (K3.out.ex KL.out))
      obtain ⟨w7, hw7⟩ : ∃ w7, w7 = w6.setCells w.heap.size 16 (ints (keepL m2.e x)) := ⟨_, rfl⟩
      rw [← hw7] at M7 O7
      have HW7 := hid hw7
      have T7 := hid (show Ms w w7 (eraN m2) by rw [EN.out]; exact M7.out)
      clear hw7 M7 EN
      have hRow := hid (MB.setRow T7.out.R (eraN m2))
      have FIN := hid (below_setRow T7.out.bel (g := w.heap.size + 1) (by omega) (eraN m2).ag)
      have OF := hid ((O7.out.setRow (g := w.heap.size + 1) (by omega) (eraN m2).ag).more (base' := w.heap.size) (by omega))
      go_wp2_with (first
        | (refine wpList_store_mid rfl 40 (.tmp 67) (.tmp 65) rfl w.heap.size 16 (agi (keepL m2.e x)) rfl rfl TH.out SZ.out (agi_one _) ?_; rw [show (agi (keepL m2.e x)).toList = ints (keepL m2.e x) from rfl, ← HW7.out])
        | (refine wpList_loadM rfl (.tmp 2) rfl _ (eraN m2) rfl T7.out.A OKS.out ?_)
        | (refine wpList_storeM rfl (.tmp 4) (.tmp 68) rfl _ zeroM (eraN m2) rfl rfl T7.out.R zeroM_ok OKS.out ?_))
      refine bodyPost_ret (v := _) (hR _ _ _ (eraN m2) rfl hRow.out OKS.out) rfl ?_
      rw [FR.out, FY.out, HE.out]
      exact ⟨A5, c5, by rw [XL.out]; rfl, OF.out, FIN.out⟩

    · clear hHeld
      go_simp
      go_at_call 66
      (with_reducible refine (KF.out _).mono ?_)
      rintro e' w' ⟨rfl, rfl⟩
      refine hK.out _ _ ⟨c96, c99⟩ (fun hHeld => ?_)
      clear hK K
      try simp only [List.getElem_toArray, List.getElem_cons_zero, List.getElem_cons_succ, Act.put, List.setIfInBounds_toArray, List.set_cons_zero, List.set_cons_succ]
      refine wpAnyH_take (i := 7) (v := ?_) rfl (by kernel_rfl) (by kernel_rfl) (by kernel_rfl) (fun _ _ _ h => h) (Or.inl ⟨by rfl, ?_⟩) hHeld ?_
      rotate_left
      · intro w hSw; obtain ⟨hS1, hS2⟩ := hSw; go_simp
        try with_reducible rfl
      try simp only [List.getElem_toArray, List.getElem_cons_zero, List.getElem_cons_succ, Act.put, List.setIfInBounds_toArray, List.set_cons_zero, List.set_cons_succ]
      refine wpAnyH_ready (rs := [1]) (by kernel_rfl) (by simp) ?_
      refine AllReadyH.cons rfl (fun K hK => ?_) AllReadyH.nil
      clear hHeld
      go_simp
      refine hK.out _ _ ⟨c96, c99⟩ (fun hHeld => ?_)
      clear hK K
      try simp only [List.getElem_toArray, List.getElem_cons_zero, List.getElem_cons_succ, Act.put, List.setIfInBounds_toArray, List.set_cons_zero, List.set_cons_succ]
      refine wpAnyH_ready (rs := [8]) (by kernel_rfl) (by simp) ?_
      refine AllReadyH.cons rfl (fun K hK => ?_) AllReadyH.nil
      clear hHeld
      go_simp
      go_at_call 62
      (with_reducible refine (KN.out W2.drew).mono ?_)
      rintro e' w3 ⟨A3, c3, rfl, hO, hB⟩; have M3 : Ms w w3 m2 := MM.out.drew.below hB; have d96 : w3.cell? ⟨w.heap.size, 96, none⟩ = some (.int .i64 m2.ga) := M3.A.cga K2.out; have d99 : w3.cell? ⟨w.heap.size, 99, none⟩ = some (.int .i64 m2.er) := M3.A.cer K2.out; have d100 : w3.cell? ⟨w.heap.size, 100, none⟩ = some (.int .i64 m2.se) := M3.A.cse K2.out; have g100 : w3.frozen? ⟨w.heap.size, 100, none⟩ = false := MB.frozen M3.A 100; have M4 : Ms w (w3.setCell ⟨w.heap.size, 100, none⟩ (.int .i64 (nzE m2.se 40))) { m2 with se := nzE m2.se 40 } := M3.se K2.out (nzE m2.se 40); have h96 : (w3.setCell ⟨w.heap.size, 100, none⟩ (.int .i64 (nzE m2.se 40))).cell? ⟨w.heap.size, 96, none⟩ = some (.int .i64 m2.ga) := M4.A.cga (K2.out.se _); have h99 : (w3.setCell ⟨w.heap.size, 100, none⟩ (.int .i64 (nzE m2.se 40))).cell? ⟨w.heap.size, 99, none⟩ = some (.int .i64 m2.er) := M4.A.cer (K2.out.se _); have M4 := hid M4; have LT3 := hid M3.lt; have O3 := hid hO; clear hO hB
      refine hK.out _ _ ⟨d96, d99⟩ (fun hHeld => ?_)
      clear hK K
      try simp only [List.getElem_toArray, List.getElem_cons_zero, List.getElem_cons_succ, Act.put, List.setIfInBounds_toArray, List.set_cons_zero, List.set_cons_succ]
      refine wpAnyH_take (i := 9) (v := ?_) rfl (by kernel_rfl) (by kernel_rfl) (by kernel_rfl) (fun _ _ _ h => h) (Or.inl ⟨by rfl, ?_⟩) hHeld ?_
      rotate_left
      · intro w hSw; obtain ⟨hS1, hS2⟩ := hSw; go_simp
        try with_reducible rfl
      try simp only [List.getElem_toArray, List.getElem_cons_zero, List.getElem_cons_succ, Act.put, List.setIfInBounds_toArray, List.set_cons_zero, List.set_cons_succ]
      refine wpAnyH_take (i := 10) (v := ?_) rfl (by kernel_rfl) (by kernel_rfl) (by kernel_rfl) (fun _ _ _ h => h) (Or.inl ⟨by rfl, ?_⟩) hHeld ?_
      rotate_left
      · intro w hSw; obtain ⟨hS1, hS2⟩ := hSw; go_simp
        try with_reducible rfl
      try simp only [List.getElem_toArray, List.getElem_cons_zero, List.getElem_cons_succ, Act.put, List.setIfInBounds_toArray, List.set_cons_zero, List.set_cons_succ]
      refine wpAnyH_take (i := 11) (v := ?_) rfl (by kernel_rfl) (by kernel_rfl) (by kernel_rfl) (fun _ _ _ h => h) (Or.inl ⟨by rfl, ?_⟩) hHeld ?_
      rotate_left
      · intro w hSw; obtain ⟨hS1, hS2⟩ := hSw; go_simp
        try with_reducible rfl
      try simp only [List.getElem_toArray, List.getElem_cons_zero, List.getElem_cons_succ, Act.put, List.setIfInBounds_toArray, List.set_cons_zero, List.set_cons_succ]
      refine wpAnyH_take (i := 12) (v := ?_) rfl (by kernel_rfl) (by kernel_rfl) (by kernel_rfl) (fun _ _ _ h => h) (Or.inl ⟨by rfl, ?_⟩) hHeld ?_
      rotate_left
      · intro w hSw; obtain ⟨hS1, hS2⟩ := hSw; go_simp
        try with_reducible rfl
      try simp only [List.getElem_toArray, List.getElem_cons_zero, List.getElem_cons_succ, Act.put, List.setIfInBounds_toArray, List.set_cons_zero, List.set_cons_succ]
      refine wpAnyH_ready (rs := [13]) (by kernel_rfl) (by simp) ?_
      refine AllReadyH.cons rfl (fun K hK => ?_) AllReadyH.nil
      clear hHeld
      go_simp
      refine hK.out _ _ ⟨h96, h99⟩ (fun hHeld => ?_)
      clear hK K
      try simp only [List.getElem_toArray, List.getElem_cons_zero, List.getElem_cons_succ, Act.put, List.setIfInBounds_toArray, List.set_cons_zero, List.set_cons_succ]
      refine wpAnyH_take (i := 14) (v := ?_) rfl (by kernel_rfl) (by kernel_rfl) (by kernel_rfl) (fun _ _ _ h => h) (Or.inl ⟨by rfl, ?_⟩) hHeld ?_
      rotate_left
      · intro w hSw; obtain ⟨hS1, hS2⟩ := hSw; go_simp
        try with_reducible rfl
      try simp only [List.getElem_toArray, List.getElem_cons_zero, List.getElem_cons_succ, Act.put, List.setIfInBounds_toArray, List.set_cons_zero, List.set_cons_succ]
      refine wpAnyH_done (by kernel_rfl) ?_ _
      clear hHeld
      refine NoPanic.normal ?_
      have O4 := hid (show Own (w3.setCell ⟨w.heap.size, 100, none⟩ (.int .i64 (nzE m2.se 40))) (w.heap.size + 2) A3 c3 (nzL m2.se z 40) from Own.setC (O3.out.more (base' := w.heap.size + 2) (by have := MM.out.lt; exact this)) (by omega) 100 _)
      obtain ⟨W4, hW4⟩ : ∃ W4, W4 = w3.setCell ⟨w.heap.size, 100, none⟩ (.int .i64 (nzE m2.se 40)) := ⟨_, rfl⟩
      clear c96 c99 c100 d96 d99 d100 h96 h99 g100 hq hwz MM KN KF
      rw [← hW4] at M4 O4 ⊢
      clear hW4 M3 O3
      have K3 := hid (K2.out.se (nzE m2.se 40))
      have rg4 : W4.rangeAt w.heap.size 16 (ints m2.e) := M4.out.A.E K3.out
      have c98 : W4.cell? ⟨w.heap.size, 98, none⟩ = some (.int .i64 m2.la) := M4.out.A.cla K3.out
      have c97 : W4.cell? ⟨w.heap.size, 97, none⟩ = some (.int .i64 m2.pi) := M4.out.A.cpi K3.out
      have c99 : W4.cell? ⟨w.heap.size, 99, none⟩ = some (.int .i64 m2.er) := M4.out.A.cer K3.out
      have hu80 := Try.underlying40
      have hi80 : (Try.prog.info? 40).map (·.size) = some (ints m2.e).length := by rw [ints_len, K2.out.e]; exact size80k
      have R4 := hid (show Rs W4.drew W4.drew.heap.size A3 (nzL m2.se z 40) from O4.out.reads)
      simp only [Exit.then]
      go_wp2_with fail
      go_region_held3 (fun w' => w'.rangeAt w.heap.size 16 (ints m2.e) ∧ w'.cell? ⟨w.heap.size, 98, none⟩ = some (.int .i64 m2.la) ∧ w'.cell? ⟨w.heap.size, 97, none⟩ = some (.int .i64 m2.pi) ∧ w'.cell? ⟨w.heap.size, 99, none⟩ = some (.int .i64 m2.er)) (first | exact ⟨by assumption, by assumption, by assumption, by assumption⟩ | go_keep) (first
        | (go_at_call 66; (with_reducible refine (KG.out _).mono ?_); rintro e' w' ⟨rfl, rfl⟩)
        | (go_at_call 28; (with_reducible refine (KM.out W4.drew A3 c3 R4.out).mono ?_); rintro e' w5 ⟨A5, c5, rfl, hO, hB⟩; have M5 : Ms w w5 { m2 with se := nzE m2.se 40 } := M4.out.drew.below hB; have rg5 : w5.rangeAt w.heap.size 16 (ints m2.e) := M5.A.E K3.out; have d98 : w5.cell? ⟨w.heap.size, 98, none⟩ = some (.int .i64 m2.la) := M5.A.cla K3.out; have d97 : w5.cell? ⟨w.heap.size, 97, none⟩ = some (.int .i64 m2.pi) := M5.A.cpi K3.out; have d99 : w5.cell? ⟨w.heap.size, 99, none⟩ = some (.int .i64 m2.er) := M5.A.cer K3.out; have M5 := hid M5; have O5 := hid (hO.more (base' := w.heap.size + 2) (by have := M4.out.lt; exact this)); clear hO hB))
      rename_i hHeldZ
      clear hHeldZ
      clear rg4 c98 c97 c99 rg5 d98 d97 d99 hu80 M4 O4 R4 KM KG
      have KL := hid (keepL_len K2.out.e XL.out)
      have KK := hid (fun W A c (h : Rs W W.heap.size A x) => show Calls Try.prog 30 #[.agg (ints m2.e).toArray, .slice A 40 c] W (Keeps W m2.e x 40) from keep_any m2.e _ A c 40 W K2.out.e h XL.out (by omega))
      have HI80 := hid hi80
      clear hi80
      simp only [Exit.then]
      go_wp2_with (refine wpList_load_mid rfl 40 (.tmp 61) rfl _ _ rfl (ints m2.e) _ (M5.out.A.E K3.out) Try.underlying40 rfl HI80.out ?_)
      refine (KK.out w5 A5 c5 O5.out.reads).mono ?_
      rintro e w6 ⟨rfl, hB⟩
      have M6 := hid (M5.out.below hB)
      have O6 := hid (O5.out.below hB)
      clear hB M5 O5 KK
      have hKE := hid (show keepA m2.e x 40 = keepL m2.e x from rfl)
      rw [hKE.out]
      have M7 := hid (M6.out.ex K3.out _ KL.out)
      have O7 := hid (Own.setCs (g := w.heap.size) (by omega) (ints (keepL m2.e x)) 16 _ O6.out)
      have SZ := hid (show (Try.prog.info? 40).map (·.size) = some (agi (keepL m2.e x)).size from by rw [agi_size, KL.out]; exact size80k)
      have TH := hid (show w6.there w.heap.size 16 (agi (keepL m2.e x)).size from by rw [agi_size, KL.out]; exact M6.out.A.thereE K3.out)
      have OKS := hid (show (eraN m2).ok by rw [EN.out]; exact (K3.out.ex KL.out))
      obtain ⟨w7, hw7⟩ : ∃ w7, w7 = w6.setCells w.heap.size 16 (ints (keepL m2.e x)) := ⟨_, rfl⟩
      rw [← hw7] at M7 O7
      have HW7 := hid hw7
      have T7 := hid (show Ms w w7 (eraN m2) by rw [EN.out]; exact M7.out)
      clear hw7 M7 EN
      have hRow := hid (MB.setRow T7.out.R (eraN m2))
      have FIN := hid (below_setRow T7.out.bel (g := w.heap.size + 1) (by omega) (eraN m2).ag)
      have OF := hid ((O7.out.setRow (g := w.heap.size + 1) (by omega) (eraN m2).ag).more (base' := w.heap.size) (by omega))
      go_wp2_with (first
        | (refine wpList_store_mid rfl 40 (.tmp 67) (.tmp 65) rfl w.heap.size 16 (agi (keepL m2.e x)) rfl rfl TH.out SZ.out (agi_one _) ?_; rw [show (agi (keepL m2.e x)).toList = ints (keepL m2.e x) from rfl, ← HW7.out])
        | (refine wpList_loadM rfl (.tmp 2) rfl _ (eraN m2) rfl T7.out.A OKS.out ?_)
        | (refine wpList_storeM rfl (.tmp 4) (.tmp 68) rfl _ zeroM (eraN m2) rfl rfl T7.out.R zeroM_ok OKS.out ?_))
      refine bodyPost_ret (v := _) (hR _ _ _ (eraN m2) rfl hRow.out OKS.out) rfl ?_
      rw [FR.out, FY.out, HE.out]
      exact ⟨A5, c5, by rw [XL.out]; rfl, OF.out, FIN.out⟩
end Go.Proofs.Ytniechgbbkkncaa

/- The reference's Silent. -/
namespace Go.Proofs.Ytniechgbbkkncaa
set_option linter.unusedVariables false
set_option linter.unusedSimpArgs false
set_option maxRecDepth 100000
open Go.RowKit

theorem w64_of16 {xs : List Int} (h : all16 xs = true) : W64 xs := fun x hx => by
  unfold all16 at h
  have := List.all_eq_true.1 h x hx
  unfold ok16 at this
  simp at this
  omega
set_option maxHeartbeats 4000000 in
theorem refSilent_any (m : Mm) (k : m.ok) (hw64 : W64 m.nums) (w : World) : Calls Try.prog 27 #[.agg m.ag] w (NewM w (silR m) (silY m) (errOf (goodM m))) := by
  have hR := results_mem3 (fn := Try.f27) (p := 2) (q := 3) (r := 4) rfl
  have S0 := hid (Ms.start w m)
  have K := hid k
  have KG := hid (fun W => refGood_any m k hw64 W)
  have KN := hid (fun W => refNoises_any 8 40 m.se W (by omega) (hw64 m.se (by unfold Mm.nums; simp)).1 (hw64 m.se (by unfold Mm.nums; simp)).2)
  have NL := hid (nzL_len m.se 8 40)
  have KL := hid (keepL_len k.e (nzL_len m.se 8 40))
  have FR := hid (show silR m = if goodM m then silM m else zeroM from rfl)
  have FY := hid (show silY m = if goodM m then nzL m.se 8 40 else [] from rfl)
  have FM := hid (show silM m = { m with se := nzE m.se 40, e := keepL m.e (nzL m.se 8 40) } from rfl)
  have KK := hid (fun W A c (h : Rs W W.heap.size A (nzL m.se 8 40)) => show Calls Try.prog 31 #[.agg (ints m.e).toArray, .slice A 40 c] W (Keeps W m.e (nzL m.se 8 40) 40) from refKeep_any m.e _ A c 40 W k.e h (nzL_len _ _ _) (by omega) (w64_of16 (nzL_in _ _ _)))
  have hi80 : (Try.prog.info? 40).map (·.size) = some (ints m.e).length := by rw [ints_len, k.e]; exact size80k
  have HI80 := hid hi80
  clear k hi80 hw64
  go_enter Try.func27, Try.ntmps27
  go_wp2_with (refine wpList_loadM rfl (.tmp 1) rfl _ m rfl S0.out.A K.out ?_)
  refine (KG.out _).mono ?_
  rintro e w1 ⟨rfl, hB⟩
  have S1 := hid (S0.out.below hB)
  clear hB S0 KG
  cases hg : goodM m with
  | false =>
    have HG := hid hg
    clear hg
    have hRow := hid (MB.setRow S1.out.R zeroM)
    have FIN := hid (below_setRow S1.out.bel (g := w.heap.size + 1) (by omega) zeroM.ag)
    go_wp2_with (refine wpList_storeM rfl (.tmp 2) (.tmp 10) rfl _ zeroM zeroM rfl (congrArg Value.agg zeroM_ag) S1.out.R zeroM_ok zeroM_ok ?_)
    refine bodyPost_ret (v := _) (hR _ _ _ zeroM rfl hRow.out zeroM_ok) rfl ?_
    rw [FR.out, FY.out, HG.out]
    exact ⟨none, 0, rfl, Own.nil, FIN.out⟩
  | true =>
    have HG := hid hg
    clear hg
    have cse := S1.out.A.cse K.out
    go_wp2_with fail
    refine (KN.out _).mono ?_
    rintro e w2 ⟨A2, c2, rfl, hO, hB⟩
    have S2 := hid (S1.out.below hB)
    have LT := hid S1.out.lt
    have O2 := hid hO
    clear hB hO
    have cse2 := S2.out.A.cse K.out
    have fse2 := MB.frozen S2.out.A 100
    have S3 := hid (S2.out.se K.out (nzE m.se 40))
    have O3 := hid (Own.setC (g := w.heap.size) O2.out (by have := LT.out; omega) 100 (.int .i64 (nzE m.se 40)))
    obtain ⟨w3, hw3⟩ : ∃ w3, w3 = w2.setCell ⟨w.heap.size, 100, none⟩ (.int .i64 (nzE m.se 40)) := ⟨_, rfl⟩
    rw [← hw3] at S3 O3
    have HW3 := hid hw3
    clear hw3 LT
    have K3 := hid (K.out.se (nzE m.se 40))
    go_wp2_with (first
      | (rw [← HW3.out])
      | (refine wpList_load_mid rfl 40 (.tmp 20) rfl _ _ rfl (ints m.e) _ (S3.out.A.E K3.out) Try.underlying40 rfl HI80.out ?_))
    refine (KK.out w3 A2 c2 O3.out.reads).mono ?_
    rintro e w4 ⟨rfl, hB⟩
    have S4 := hid (S3.out.below hB)
    have O4 := hid (O3.out.below hB)
    have LT := hid S1.out.lt
    clear hB
    have hKE := hid (show keepA m.e (nzL m.se 8 40) 40 = keepL m.e (nzL m.se 8 40) from rfl)
    rw [hKE.out]
    have S5 := hid (S4.out.ex K3.out _ KL.out)
    have O5 := hid (Own.setCs (g := w.heap.size) (by have := LT.out; omega) (ints (keepL m.e (nzL m.se 8 40))) 16 _ O4.out)
    obtain ⟨w5, hw5⟩ : ∃ w5, w5 = w4.setCells w.heap.size 16 (ints (keepL m.e (nzL m.se 8 40))) := ⟨_, rfl⟩
    rw [← hw5] at S5 O5
    have HW5 := hid hw5
    clear hw5
    have OK5 := hid (show Mm.ok _ from (K3.out.ex KL.out))
    have T5 := hid (show Ms w w5 (silM m) from S5.out)
    have OKS := hid (silM_ok K.out)
    have hRow := hid (MB.setRow T5.out.R (silM m))
    have FIN := hid (below_setRow T5.out.bel (g := w.heap.size + 1) (by omega) (silM m).ag)
    have OF := hid ((O5.out.setRow (g := w.heap.size + 1) (by have := LT.out; omega) (silM m).ag).more (base' := w.heap.size) (by have := LT.out; omega))
    have SZ := hid (show (Try.prog.info? 40).map (·.size) = some (agi (keepL m.e (nzL m.se 8 40))).size from by rw [agi_size, KL.out]; exact size80k)
    have TH := hid (show w4.there w.heap.size 16 (agi (keepL m.e (nzL m.se 8 40))).size from by rw [agi_size, KL.out]; exact S4.out.A.thereE K3.out)
    go_wp2_with (first
      | (refine wpList_store_mid rfl 40 (.tmp 26) (.tmp 24) rfl w.heap.size 16 (agi (keepL m.e (nzL m.se 8 40))) rfl rfl TH.out SZ.out (agi_one _) ?_; rw [show (agi (keepL m.e (nzL m.se 8 40))).toList = ints (keepL m.e (nzL m.se 8 40)) from rfl, ← HW5.out])
      | (refine wpList_loadM rfl (.tmp 1) rfl _ (silM m) rfl T5.out.A OKS.out ?_)
      | (refine wpList_storeM rfl (.tmp 2) (.tmp 27) rfl _ zeroM (silM m) rfl rfl T5.out.R zeroM_ok OKS.out ?_))
    refine bodyPost_ret (v := _) (hR _ _ _ (silM m) rfl hRow.out OKS.out) rfl ?_
    rw [FR.out, FY.out, HG.out]
    exact ⟨A2, c2, by rw [if_pos rfl, if_pos rfl, NL.out]; rfl, by rw [if_pos rfl]; exact OF.out, FIN.out⟩
end Go.Proofs.Ytniechgbbkkncaa

/- append of one number as a step of a drawing region. -/
namespace Go.Proofs.Ytniechgbbkkncaa
set_option linter.unusedVariables false
set_option linter.unusedSimpArgs false
set_option maxRecDepth 100000
open Go.RowKit

theorem step_pushI {ops : Array Oper} {o : Oper} {a : Act} {w : World} {K : Act → World → Prop} {Q : Exit → Act → World → Prop} {E : Prop} (hgd : o.guard = none) (s x : Operand)
    (ho : o.op = .call { callee := .builtin .append, args := #[s, x], argTypes := #[25, 25] })
    (base : Nat) (A : Option Addr) (c n : Nat) (xs : List Int) (hs : a.eval s = .slice A n c) (hn : xs.length = n) (hown : Own w base A c xs)
    (ad : Addr) (y : Int) (hx : a.eval x = .slice (some ad) 1 1) (hc : w.cell? ad = some (.int .i64 y)) (hlen : n + 1 ≤ 17592186044416) (hbase : base ≤ w.heap.size)
    (h : ∀ A' c' w', Own w' base A' c' (xs ++ [y]) → w.grownBy w' (A.map (·.block)) → K (a.put o.dst (.slice A' (n + 1) c')) w') :
    if Region.wanted o (yielded ops a.tmps) = true then Oper.wp Try.prog o a w K Q else E := by
  have hw : Region.wanted o (yielded ops a.tmps) = true := by simp [Region.wanted, hgd]
  rw [if_pos hw]
  subst hn
  obtain ⟨i0, hi, hz0, hz1, hz2⟩ := info_parts infoI
  have hr : Reads w (ad.block + 1) 1 (some ad) 1 (ints [y]) := ⟨by simp [ints], fun _ => ⟨ad, rfl, by omega, fun j u hj => by
    match j, hj with
    | 0, hj => simp [ints] at hj; subst hj; have e : ad.add 0 = ad := by unfold Addr.add; simp
               rw [e]; exact hc⟩⟩
  obtain ⟨v', w', hrun, h2, h3, h4⟩ := run_append_any (P := Try.prog) w base 25 o.type 3 i0 (.int .i64 0) 1 8 Try.underlying25 hi hz0 hz1 hz2 rfl (by omega) _ _ _ hown (ad.block + 1) (some ad) 1 1 (ints [y]) hr (ints_one [y]) (by unfold maxLen; omega) (by omega) hbase
  obtain ⟨A', c', rfl, hO⟩ := own_form h2 (ints_append xs [y])
  have hl : (xs ++ [y]).length = xs.length + 1 := by simp
  unfold Oper.wp execOp
  simp only [ho, resolve, invoke, builtin, Sem.run_bind, Sem.run_pure, Result.andThen_ok, List.map_toArray, List.map_cons, List.map_nil, hs, hx, hrun]
  rw [hl]
  exact h A' c' w' hO (by cases A <;> exact h3)
end Go.Proofs.Ytniechgbbkkncaa

/- The reference's MixExc. -/
namespace Go.Proofs.Ytniechgbbkkncaa
set_option linter.unusedVariables false
set_option linter.unusedSimpArgs false
set_option maxRecDepth 100000
open Go.RowKit

set_option maxHeartbeats 4000000 in
theorem refMix_any (h x : List Int) (lag g : Int) (A : Option Addr) (c n : Nat) (w : World) (hh : h.length = 80) (hr : Rs w w.heap.size A x) (hn : x.length = n) (hl : n ≤ 17592186044416) (hw : W64 h) (hwx : W64 x) :
    Calls Try.prog 29 #[.agg (agi h), .int .i64 lag, .int .i64 g, .slice A n c] w (NewSE w (mxL h x lag g n) (mxR lag g n)) := by
  have A0 := hid (IB.new w 40 h)
  have B0 := hid ((Below.refl w.heap.size w).alloc (Nat.le_refl _) (.cells (agi h) 40))
  have HH := hid hh
  have HR := hid hr
  have HN := hid hn
  by_cases h40 : n = 40
  · subst h40
    by_cases hg : (20 ≤ lag ∧ lag ≤ 79) ∧ 0 ≤ g ∧ g ≤ 32767
    · obtain ⟨⟨l1, l2⟩, g1, g2⟩ := hg
      have hb := pastB_yes l1 l2
      have KP := hid (fun W => refPast_any h lag W hh)
      have hlen := pastL_len (h := h) hb
      have hP64 : W64 (pastL h lag) := fun y hy => by
        unfold pastL at hy
        rw [if_pos hb] at hy
        obtain ⟨i, _, rfl⟩ := List.mem_map.1 hy
        exact hw.at_ _
      obtain ⟨e1, e2⟩ := mx_good (h := h) (x := x) (lag := lag) (g := g) (by unfold mxB; rw [hb]; simp; omega)
      have E1 := hid e1
      rw [e2]
      rw [hb] at KP
      have HPL := hid hlen
      have HP64 := hid hP64
      have HX64 := hid hwx
      have HE := hid (fun i => show mxE h x lag g i = mxV ((pastL h lag).getD i 0) g (x.getD i 0) from rfl)
      generalize pastL h lag = P at *
      clear e1 e2 hb hlen hP64 hwx hw hr hn hh
      go_enter Try.func29, Try.ntmps29
      go_wp2_with (refine wpList_loadI rfl 40 (.tmp 4) rfl _ 40 h 80 _ rfl A0.out Try.underlying40 rfl size80k HH.out ?_)
      refine (KP.out _).mono ?_
      rintro e w1 ⟨A1, c1, rfl, hO, hB⟩
      have L1 := hid (B0.out.trans (hB.mono B0.out.size))
      obtain ⟨gv, rfl, gv1, gv2⟩ := hO.head (by rw [HPL.out]; omega)
      have O1 := hid (hO.more (base' := w.heap.size) (by simp))
      have hgv : w.heap.size ≤ gv := by simp at gv1; omega
      have HGV2 := hid gv2
      have HL1 := hid L1.out.size
      rw [HPL.out]
      clear hO hB gv1 gv2 l1 l2
      go_wp2
      go_loopw [12, 39] (fun ov iv wr => ∃ (k : Nat) (A2 : Option Addr) (c2 : Nat), k ≤ 40 ∧ iv = .int .i64 k ∧ ov = .slice A2 k c2 ∧ Hid (Own wr w1.heap.size A2 c2 ((List.range k).map (mxE h x lag g))) ∧ Hid (Own wr w.heap.size (some ⟨gv, 0, none⟩) c1 P) ∧ Hid (Below w.heap.size w wr) ∧ Hid (w1.heap.size ≤ wr.heap.size)) (fun _ iv _ => 40 - (intOf iv).toNat)
      case atStart => exact ⟨0, none, 0, by omega, rfl, rfl, hid Own.nil, O1, L1, hid (Nat.le_refl _)⟩
      case round =>
        clear O1 L1
        obtain ⟨k, A2, c2, hk, rfl, rfl, HO, HV1, HB, HS⟩ := hrel
        by_cases hlt : k < 40
        · obtain ⟨ad, rfl, hadb, cb0⟩ := HR.out.at_ (k := k) (by rw [HN.out]; exact hlt)
          have cb := (HB.out.cell (p := ad.add k) (by rw [block_of_add]; exact hadb)).trans cb0
          have cp := HV1.out.cell k (by rw [HPL.out]; exact hlt)
          have hk40 : (k : Int) < 40 := by omega
          have HV := HE.out k
          have p64 := HP64.out.at_ k
          have b64 := HX64.out.at_ k
          have YN := hid (show (List.range k).map (mxE h x lag g) ++ [mxE h x lag g k] = (List.range (k + 1)).map (mxE h x lag g) from snoc_range _)
          have YL := hid (show ((List.range k).map (mxE h x lag g)).length = k by simp)
          generalize (List.range k).map (mxE h x lag g) = Y at *
          obtain ⟨p, hp⟩ : ∃ p, p = P.getD k 0 := ⟨_, rfl⟩
          obtain ⟨b, hb⟩ : ∃ b, b = x.getD k 0 := ⟨_, rfl⟩
          have HCP := hid (fun W (o : Own W w.heap.size (some ⟨gv, 0, none⟩) c1 P) => show W.cell? ⟨gv, k, none⟩ = some (.int .i64 p) by rw [hp]; exact o.cell k (by rw [HPL.out]; exact hlt))
          rw [← hp] at cp HV p64
          rw [← hb] at cb cb0 HV b64
          have CB0 := hid cb0
          unfold mxV at HV
          have KA := hid (fun W => S_any p W p64.1 p64.2)
          have KB := hid (fun W => S_any b W b64.1 b64.2)
          have ra := s16_range p
          have rb := s16_range b
          generalize s16 p = sa at KA HV ra
          generalize s16 b = sb at KB HV rb
          have hq := mx_mul ra.1 ra.2 g1 g2
          obtain ⟨q, hqe⟩ : ∃ q, sa * g = q := ⟨_, rfl⟩
          rw [hqe] at hq HV
          have hw1 : IntKind.i64.wrap (sa * g) = q := by rw [hqe, IntKind.wrap_i64]; omega
          have hw2 : IntKind.i64.wrap (q + 8192) = q + 8192 := by rw [IntKind.wrap_i64]; omega
          have KD := hid (fun W => down14 (q + 8192) W (by omega) (by omega))
          obtain ⟨r, hre⟩ : ∃ r, r = (q + 8192) / 16384 := ⟨_, rfl⟩
          rw [← hre] at KD HV
          obtain ⟨t, ht⟩ : ∃ t, t = r + sb := ⟨_, rfl⟩
          have hw3 : IntKind.i64.wrap (r + sb) = t := by rw [ht, IntKind.wrap_i64]; omega
          rw [← ht] at HV
          have KT := hid (fun W => S_any t W (by omega) (by omega))
          obtain ⟨y, hy⟩ : ∃ y, y = s16 t := ⟨_, rfl⟩
          rw [← hy] at KT HV
          rw [HV] at YN
          have hgvW : gv < wr.heap.size := by have := HGV2.out; have := HS.out; omega
          have hadW : ad.block < wr.heap.size := by have := HB.out.size; omega
          have HADB := hid hadb
          clear hp hb ra rb hq hqe hre ht hy HV p64 b64 hadb cb0
          go_wp2
          go_region_held3 (fun w' => w'.cell? ⟨gv, k, none⟩ = some (.int .i64 p) ∧ w'.cell? (ad.add k) = some (.int .i64 b)) (go_keep) (first
            | (go_at_call 47; (with_reducible refine (KA.out wr.drew).mono ?_); rintro e' wA ⟨rfl, hBA⟩; have LA : Below wr.heap.size wr wA := ((Below.refl wr.heap.size wr).drew).trans (hBA.mono (Nat.le_refl _)); have a0 : World.cell? wA ⟨gv, k, none⟩ = some (.int .i64 p) := (LA.cell hgvW).trans cp; have a1 : World.cell? wA (ad.add k) = some (.int .i64 b) := (LA.cell (by rw [block_of_add]; omega)).trans cb; have LA := hid LA; clear hBA)
            | (go_at_call 48; (with_reducible refine (KD.out wA).mono ?_); rintro e' wB ⟨rfl, hBB⟩; have LB : Below wr.heap.size wr wB := LA.out.trans (hBB.mono LA.out.size); have b0 : World.cell? wB ⟨gv, k, none⟩ = some (.int .i64 p) := (LB.cell hgvW).trans cp; have b1 : World.cell? wB (ad.add k) = some (.int .i64 b) := (LB.cell (by rw [block_of_add]; omega)).trans cb; have LB := hid LB; clear hBB)
            | (go_at_call 47; (with_reducible refine (KB.out wB).mono ?_); rintro e' wC ⟨rfl, hBC⟩; have LC : Below wr.heap.size wr wC := LB.out.trans (hBC.mono LB.out.size); have e0 : World.cell? wC ⟨gv, k, none⟩ = some (.int .i64 p) := (LC.cell hgvW).trans cp; have e1 : World.cell? wC (ad.add k) = some (.int .i64 b) := (LC.cell (by rw [block_of_add]; omega)).trans cb; have LC := hid LC; clear hBC)
            | (go_at_call 47; (with_reducible refine (KT.out wC).mono ?_); rintro e' wD ⟨rfl, hBD⟩; have LD : Below wr.heap.size wr wD := LC.out.trans (hBD.mono LC.out.size); have d0 : World.cell? wD ⟨gv, k, none⟩ = some (.int .i64 p) := (LD.cell hgvW).trans cp; have d1 : World.cell? wD (ad.add k) = some (.int .i64 b) := (LD.cell (by rw [block_of_add]; omega)).trans cb; have LD := hid LD; clear hBD)
            | (refine step_pushI rfl (.tmp 42) (.tmp 59) rfl w1.heap.size A2 c2 k Y rfl YL.out ((HO.out.below LD.out).alloc _) ⟨wD.heap.size, 0, none⟩ y rfl (cell_new wD _ _) (by omega) (by have := HS.out; have := LD.out.size; simp; omega) ?_; intro A3 c3 w5 hO hG; have V5 := (((HV1.out.below LD.out).alloc (.cells #[.int .i64 y] 3)).kept hG (fun a ha => by injection ha with ha; subst ha; cases A2 with | none => simp | some a2 => have := HO.out.lt a2 rfl; have := HGV2.out; simp; omega)); have B5 : Below w.heap.size w w5 := (((HB.out.trans (LD.out.mono HB.out.size)).alloc (by have := HB.out.size; have := LD.out.size; omega) (.cells #[.int .i64 y] 3)).grown hG (by have := HB.out.size; have := LD.out.size; simp; omega) (fun i hi => by cases A2 with | none => simp at hi | some a2 => have := HO.out.lt a2 rfl; have := HL1.out; simp at hi; omega)); have f0 := HCP.out w5 V5; have f1 : World.cell? w5 (ad.add k) = some (.int .i64 b) := (B5.cell (p := ad.add k) (by rw [block_of_add]; exact HADB.out)).trans CB0.out; have V5 := hid V5; have B5 := hid B5; have O5 := hid hO; have G5 := hid hG.size; clear hO hG))
          rename_i hHeldZ
          clear hHeldZ
          clear a0 a1 b0 b1 e0 e1 d0 d1 f0 f1 cp cb hw1 hw2 hw3
          simp only [Exit.then, Exit.inBlock]
          have S5 := hid (show w1.heap.size ≤ w5.heap.size by have h1 := HS.out; have h2 := HB.out.size; have h3 := LD.out.size; have h4 := G5.out; simp at h4; omega)
          go_wp2
          go_roundw
          case rel => exact ⟨k + 1, A3, c3, by omega, by go_num, rfl, hid (by have := O5.out; rwa [YN.out] at this), V5, B5, S5⟩
          case measure => simp [intOf] <;> omega
        · obtain rfl : k = 40 := by omega
          go_wp2
          go_ret2
          rw [E1.out]
          exact ⟨A2, c2, by simp, HO.out.more (by have := HL1.out; omega), HB.out⟩
    · obtain ⟨e1, e2⟩ := mx_bad (h := h) (x := x) (lag := lag) (g := g) (by unfold mxB pastB; simp; omega)
      rw [e1, e2]
      have FIN := hid (NewSE.none_ (er := 2) B0.out)
      clear e1 e2 hw hwx hr hn hh
      by_cases c1 : lag < 20
      · clear hg
        go_enter Try.func29, Try.ntmps29
        go_wp2
        go_ret2
        exact FIN.out
      by_cases c2 : 79 < lag
      · clear hg
        go_enter Try.func29, Try.ntmps29
        go_wp2
        go_ret2
        exact FIN.out
      by_cases c3 : g < 0
      · clear hg
        go_enter Try.func29, Try.ntmps29
        go_wp2
        go_ret2
        exact FIN.out
      · have c4 : 32767 < g := by omega
        clear hg
        go_enter Try.func29, Try.ntmps29
        go_wp2
        go_ret2
        exact FIN.out
  · obtain ⟨e1, e2⟩ := mx_size (h := h) (x := x) (lag := lag) (g := g) h40
    rw [e1, e2]
    have d1 : ((n : Int) == 40) = false := by simp; omega
    have d2 : ((n : Int) != 40) = true := by simp; omega
    have FIN := hid (NewSE.none_ (er := 1) B0.out)
    clear h40 e1 e2
    go_enter Try.func29, Try.ntmps29
    go_wp2
    go_ret2
    exact FIN.out
end Go.Proofs.Ytniechgbbkkncaa

/- The reference's Erased. -/
namespace Go.Proofs.Ytniechgbbkkncaa
set_option linter.unusedVariables false
set_option linter.unusedSimpArgs false
set_option maxRecDepth 100000
open Go.RowKit

theorem w64_e {m : Mm} (h : W64 m.nums) : W64 m.e := fun x hx => h x (by unfold Mm.nums; simp [hx])

set_option maxHeartbeats 8000000 in
theorem refErased_any (m : Mm) (k : m.ok) (hw64 : W64 m.nums) (half : Int) (w : World) : Calls Try.prog 33 #[.agg m.ag, .int .i64 half] w (NewM w (eraR m half) (eraY m half) (errOf (eraB m half))) := by
  have hR := results_mem3 (fn := Try.f33) (p := 4) (q := 5) (r := 6) rfl
  have S0 := hid (Ms.start w m)
  have K := hid k
  have KG := hid (fun W => refGood_any m k hw64 W)
  have HW64 := hid hw64
  clear k hw64
  go_enter Try.func33, Try.ntmps33
  go_wp2_with (refine wpList_loadM rfl (.tmp 2) rfl _ m rfl S0.out.A K.out ?_)
  refine (KG.out _).mono ?_
  rintro e w1 ⟨rfl, hB⟩
  have S1 := hid (S0.out.below hB)
  clear hB S0 KG
  cases hg : goodM m with
  | false =>
    have HE := hid (show eraB m half = false by unfold eraB; rw [hg]; rfl)
    clear hg
    have FR := hid (show eraR m half = zeroM by unfold eraR; rw [HE.out]; rfl)
    have FY := hid (show eraY m half = [] by unfold eraY; rw [HE.out]; rfl)
    have hRow := hid (MB.setRow S1.out.R zeroM)
    have FIN := hid (below_setRow S1.out.bel (g := w.heap.size + 1) (by omega) zeroM.ag)
    go_wp2_with (refine wpList_storeM rfl (.tmp 4) (.tmp 22) rfl _ zeroM zeroM rfl (congrArg Value.agg zeroM_ag) S1.out.R zeroM_ok zeroM_ok ?_)
    refine bodyPost_ret (v := _) (hR _ _ _ zeroM rfl hRow.out zeroM_ok) rfl ?_
    rw [FR.out, FY.out, HE.out]
    exact ⟨none, 0, rfl, Own.nil, FIN.out⟩
  | true =>
  by_cases h1 : half < 0
  · have HE := hid (show eraB m half = false by unfold eraB; simp; omega)
    clear hg
    have FR := hid (show eraR m half = zeroM by unfold eraR; rw [HE.out]; rfl)
    have FY := hid (show eraY m half = [] by unfold eraY; rw [HE.out]; rfl)
    have hRow := hid (MB.setRow S1.out.R zeroM)
    have FIN := hid (below_setRow S1.out.bel (g := w.heap.size + 1) (by omega) zeroM.ag)
    go_wp2_with (refine wpList_storeM rfl (.tmp 4) (.tmp 22) rfl _ zeroM zeroM rfl (congrArg Value.agg zeroM_ag) S1.out.R zeroM_ok zeroM_ok ?_)
    refine bodyPost_ret (v := _) (hR _ _ _ zeroM rfl hRow.out zeroM_ok) rfl ?_
    rw [FR.out, FY.out, HE.out]
    exact ⟨none, 0, rfl, Own.nil, FIN.out⟩
  by_cases h2 : 1 < half
  · have HE := hid (show eraB m half = false by unfold eraB; simp; omega)
    clear hg
    have FR := hid (show eraR m half = zeroM by unfold eraR; rw [HE.out]; rfl)
    have FY := hid (show eraY m half = [] by unfold eraY; rw [HE.out]; rfl)
    have hRow := hid (MB.setRow S1.out.R zeroM)
    have FIN := hid (below_setRow S1.out.bel (g := w.heap.size + 1) (by omega) zeroM.ag)
    go_wp2_with (refine wpList_storeM rfl (.tmp 4) (.tmp 22) rfl _ zeroM zeroM rfl (congrArg Value.agg zeroM_ag) S1.out.R zeroM_ok zeroM_ok ?_)
    refine bodyPost_ret (v := _) (hR _ _ _ zeroM rfl hRow.out zeroM_ok) rfl ?_
    rw [FR.out, FY.out, HE.out]
    exact ⟨none, 0, rfl, Own.nil, FIN.out⟩
  have HE := hid (show eraB m half = true by unfold eraB; rw [hg]; simp; omega)
  have HT := hid (goodM_of hg).2.2.2
  have FR := hid (show eraR m half = eraN (eraP m half) by unfold eraR; rw [HE.out]; rfl)
  have FY := hid (show eraY m half = eraX (eraP m half) by unfold eraY; rw [HE.out]; rfl)
  clear hg
  have key : (half = 0 ∧ m.er < 6) ∨ (half = 0 ∧ ¬ m.er < 6) ∨ half = 1 := by omega
  have a5 : w1.cell? ⟨w.heap.size, 99, none⟩ = some (.int .i64 m.er) := S1.out.A.cer K.out
  have f5 : w1.frozen? ⟨w.heap.size, 99, none⟩ = false := MB.frozen S1.out.A 99
  have hM : ∃ m2 : Mm, m2 = eraP m half := ⟨_, rfl⟩
  obtain ⟨m2, hm2⟩ := hM
  rw [← hm2] at FR FY
  have K2 := hid (show m2.ok by rw [hm2]; exact eraP_ok K.out half)
  have HLA := hid (show 20 ≤ m2.la ∧ m2.la ≤ 79 by rw [hm2]; exact HT.out.1)
  have HSE := hid (show -9223372036854775808 ≤ m2.se ∧ m2.se ≤ 9223372036854775807 by rw [hm2]; have : 0 ≤ m.se ∧ m.se < 65536 := HT.out.2.1; show -9223372036854775808 ≤ m.se ∧ m.se ≤ 9223372036854775807; omega)
  have HE64 := hid (show W64 m2.e by rw [hm2]; show W64 m.e; exact w64_e HW64.out)
  rcases key with ⟨rfl, h6⟩ | ⟨rfl, h6⟩ | rfl
  · have hw1 : IntKind.i64.wrap (m.er + 1) = m.er + 1 := by have := HT.out.2.2.2.2; rw [IntKind.wrap_i64]; omega
    have MM := hid (show Ms w (w1.setCell ⟨w.heap.size, 99, none⟩ (.int .i64 (m.er + 1))) m2 by
      have := S1.out.er K.out (m.er + 1)
      rw [hm2]
      unfold eraP er1
      rw [if_pos ⟨rfl, h6⟩]
      exact this)
    clear hm2 h1 h2
    go_wp2_with fail
    obtain ⟨W2, hW2⟩ : ∃ W2, W2 = w1.setCell ⟨w.heap.size, 99, none⟩ (.int .i64 (m.er + 1)) := ⟨_, rfl⟩
    rw [← hW2] at MM ⊢
    clear hW2 a5 f5 hw1 h6
    have c96 : W2.cell? ⟨w.heap.size, 96, none⟩ = some (.int .i64 m2.ga) := MM.out.A.cga K2.out
    have c99 : W2.cell? ⟨w.heap.size, 99, none⟩ = some (.int .i64 m2.er) := MM.out.A.cer K2.out
    have c100 : W2.cell? ⟨w.heap.size, 100, none⟩ = some (.int .i64 m2.se) := MM.out.A.cse K2.out
    have KN := hid (fun W => show Calls Try.prog 63 #[.int .i64 m2.se, .int .i64 (eraZ m2), .int .i64 40] W (NzA W m2.se (eraZ m2) 40) from refNoises_any (eraZ m2) 40 m2.se W (by omega) HSE.out.1 HSE.out.2)
    have KM := hid (fun W A c (hr : Rs W W.heap.size A (nzL m2.se (eraZ m2) 40)) => show Calls Try.prog 29 #[.agg (ints m2.e).toArray, .int .i64 m2.la, .int .i64 (fade m2.pi m2.er), .slice A 40 c] W (fun e w' => ∃ A c, e = .returned (.tuple #[.slice A 40 c, .int .i64 0]) ∧ Own w' W.heap.size A c (eraX m2) ∧ Below W.heap.size W w') from by
      refine (refMix_any m2.e _ m2.la (fade m2.pi m2.er) A c 40 W K2.out.e hr (nzL_len _ _ _) (by omega) HE64.out (w64_of16 (nzL_in _ _ _))).mono ?_
      rintro e w' ⟨A', c', h1, h2, h3⟩
      rw [(mx_good (h := m2.e) (x := nzL m2.se (eraZ m2) 40) (eraX_good HLA.out)).2] at h1
      have hl := eraX_len HLA.out
      unfold eraX at hl
      rw [hl] at h1
      exact ⟨A', c', h1, h2, h3⟩)
    have XL := hid (eraX_len HLA.out)
    have X64 := hid (show W64 (eraX m2) from w64_of16 (mxL_in _ _ _ _ _))
    have EN := hid (show eraN m2 = { m2 with se := nzE m2.se 40, e := keepL m2.e (eraX m2) } from rfl)
    have KF0 := fun W => refFade_any m2.ga m2.er W
    have KG0 := fun W => refFade_any m2.pi m2.er W
    have fb := fade_range m2.ga m2.er
    have hwz : IntKind.i64.wrap (eraZ m2) = eraZ m2 := by unfold eraZ; rw [IntKind.wrap_i64]; omega
    have hq : (fade m2.ga m2.er).tdiv 4 = eraZ m2 := by unfold eraZ; exact Int.tdiv_eq_ediv_of_nonneg fb.1
    generalize eraX m2 = x at *
    generalize eraZ m2 = z at *
    generalize fade m2.ga m2.er = f at *
    generalize fade m2.pi m2.er = f2 at *
    have KF := hid KF0
    have KG := hid KG0
    clear KF0 KG0 fb
    go_region_held3 (fun w' => w'.cell? ⟨w.heap.size, 96, none⟩ = some (.int .i64 m2.ga) ∧ w'.cell? ⟨w.heap.size, 99, none⟩ = some (.int .i64 m2.er) ∧ w'.cell? ⟨w.heap.size, 100, none⟩ = some (.int .i64 m2.se)) (first | exact ⟨by assumption, by assumption, by assumption⟩ | go_keep) (first
      | (go_at_call 67; (with_reducible refine (KF.out W2.drew).mono ?_); rintro e' wA ⟨rfl, hB⟩; have MA : Ms w wA m2 := MM.out.drew.below hB; have a96 : wA.cell? ⟨w.heap.size, 96, none⟩ = some (.int .i64 m2.ga) := MA.A.cga K2.out; have a99 : wA.cell? ⟨w.heap.size, 99, none⟩ = some (.int .i64 m2.er) := MA.A.cer K2.out; have a100 : wA.cell? ⟨w.heap.size, 100, none⟩ = some (.int .i64 m2.se) := MA.A.cse K2.out; have MA := hid MA; clear hB)
      | (go_at_call 63; (with_reducible refine (KN.out wA).mono ?_); rintro e' w3 ⟨A3, c3, rfl, hO, hB⟩; have M3 : Ms w w3 m2 := MA.out.below hB; have d96 : w3.cell? ⟨w.heap.size, 96, none⟩ = some (.int .i64 m2.ga) := M3.A.cga K2.out; have d99 : w3.cell? ⟨w.heap.size, 99, none⟩ = some (.int .i64 m2.er) := M3.A.cer K2.out; have d100 : w3.cell? ⟨w.heap.size, 100, none⟩ = some (.int .i64 m2.se) := M3.A.cse K2.out; have M3 := hid M3; have O3 := hid (hO.more (base' := w.heap.size + 2) MA.out.lt); clear hO hB))
    rename_i hHeldZ
    clear hHeldZ
    clear c96 c99 c100 a96 a99 a100 d96 d99 d100 hq hwz MM KN KF MA
    have rg4 : w3.rangeAt w.heap.size 16 (ints m2.e) := M3.out.A.E K2.out
    have c98 : w3.cell? ⟨w.heap.size, 98, none⟩ = some (.int .i64 m2.la) := M3.out.A.cla K2.out
    have c97 : w3.cell? ⟨w.heap.size, 97, none⟩ = some (.int .i64 m2.pi) := M3.out.A.cpi K2.out
    have c99 : w3.cell? ⟨w.heap.size, 99, none⟩ = some (.int .i64 m2.er) := M3.out.A.cer K2.out
    have hu80 := Try.underlying40
    have hi80 : (Try.prog.info? 40).map (·.size) = some (ints m2.e).length := by rw [ints_len, K2.out.e]; exact size80k
    simp only [Exit.then]
    go_wp2_with fail
    go_region_held3 (fun w' => w'.rangeAt w.heap.size 16 (ints m2.e) ∧ w'.cell? ⟨w.heap.size, 98, none⟩ = some (.int .i64 m2.la) ∧ w'.cell? ⟨w.heap.size, 97, none⟩ = some (.int .i64 m2.pi) ∧ w'.cell? ⟨w.heap.size, 99, none⟩ = some (.int .i64 m2.er)) (first | exact ⟨by assumption, by assumption, by assumption, by assumption⟩ | go_keep) (first
      | (go_at_call 67; (with_reducible refine (KG.out w3.drew).mono ?_); rintro e' wB ⟨rfl, hB⟩; have MB1 : Ms w wB m2 := M3.out.drew.below hB; have rgB : wB.rangeAt w.heap.size 16 (ints m2.e) := MB1.A.E K2.out; have b98 : wB.cell? ⟨w.heap.size, 98, none⟩ = some (.int .i64 m2.la) := MB1.A.cla K2.out; have b97 : wB.cell? ⟨w.heap.size, 97, none⟩ = some (.int .i64 m2.pi) := MB1.A.cpi K2.out; have b99 : wB.cell? ⟨w.heap.size, 99, none⟩ = some (.int .i64 m2.er) := MB1.A.cer K2.out; have MB1 := hid MB1; have RB := hid ((O3.out.drew.below hB).reads); clear hB)
      | (go_at_call 29; (with_reducible refine (KM.out wB A3 c3 RB.out).mono ?_); rintro e' w5 ⟨A5, c5, rfl, hO, hB⟩; have M5 : Ms w w5 m2 := MB1.out.below hB; have rg5 : w5.rangeAt w.heap.size 16 (ints m2.e) := M5.A.E K2.out; have d98 : w5.cell? ⟨w.heap.size, 98, none⟩ = some (.int .i64 m2.la) := M5.A.cla K2.out; have d97 : w5.cell? ⟨w.heap.size, 97, none⟩ = some (.int .i64 m2.pi) := M5.A.cpi K2.out; have d99 : w5.cell? ⟨w.heap.size, 99, none⟩ = some (.int .i64 m2.er) := M5.A.cer K2.out; have M5 := hid M5; have O5 := hid (hO.more (base' := w.heap.size + 2) MB1.out.lt); clear hO hB))
    rename_i hHeldZ
    clear hHeldZ
    clear rg4 c98 c97 c99 rgB b98 b97 b99 rg5 d98 d97 d99 hu80 KM KG M3 O3 MB1 RB
    have c100 : w5.cell? ⟨w.heap.size, 100, none⟩ = some (.int .i64 m2.se) := M5.out.A.cse K2.out
    have f100 : w5.frozen? ⟨w.heap.size, 100, none⟩ = false := MB.frozen M5.out.A 100
    have K3 := hid (K2.out.se (nzE m2.se 40))
    have M6 := hid (M5.out.se K2.out (nzE m2.se 40))
    have O6 := hid (Own.setC (g := w.heap.size) O5.out (by omega) 100 (.int .i64 (nzE m2.se 40)))
    have KL := hid (keepL_len K2.out.e XL.out)
    have KK := hid (fun W A c (h : Rs W W.heap.size A x) => show Calls Try.prog 31 #[.agg (ints m2.e).toArray, .slice A 40 c] W (Keeps W m2.e x 40) from refKeep_any m2.e _ A c 40 W K2.out.e h XL.out (by omega) X64.out)
    have HI80 := hid hi80
    clear hi80
    obtain ⟨w6, hw6⟩ : ∃ w6, w6 = w5.setCell ⟨w.heap.size, 100, none⟩ (.int .i64 (nzE m2.se 40)) := ⟨_, rfl⟩
    rw [← hw6] at M6 O6
    have HW6 := hid hw6
    clear hw6
    simp only [Exit.then]
    go_wp2_with (first
      | (rw [← HW6.out])
      | (refine wpList_load_mid rfl 40 (.tmp 63) rfl _ _ rfl (ints m2.e) _ (M6.out.A.E K3.out) Try.underlying40 rfl HI80.out ?_))
    refine (KK.out w6 A5 c5 O6.out.reads).mono ?_
    rintro e w8 ⟨rfl, hB⟩
    have M8 := hid (M6.out.below hB)
    have O8 := hid (O6.out.below hB)
    clear hB M5 M6 O5 O6 KK c100 f100 HW6
    have hKE := hid (show keepA m2.e x 40 = keepL m2.e x from rfl)
    rw [hKE.out]
    have M7 := hid (M8.out.ex K3.out _ KL.out)
    have O7 := hid (Own.setCs (g := w.heap.size) (by omega) (ints (keepL m2.e x)) 16 _ O8.out)
    have SZ := hid (show (Try.prog.info? 40).map (·.size) = some (agi (keepL m2.e x)).size from by rw [agi_size, KL.out]; exact size80k)
    have TH := hid (show w8.there w.heap.size 16 (agi (keepL m2.e x)).size from by rw [agi_size, KL.out]; exact M8.out.A.thereE K3.out)
    have OKS := hid (show (eraN m2).ok by rw [EN.out]; exact (K3.out.ex KL.out))
    obtain ⟨w7, hw7⟩ : ∃ w7, w7 = w8.setCells w.heap.size 16 (ints (keepL m2.e x)) := ⟨_, rfl⟩
    rw [← hw7] at M7 O7
    have HW7 := hid hw7
    have T7 := hid (show Ms w w7 (eraN m2) by rw [EN.out]; exact M7.out)
    clear hw7 M7 EN
    have hRow := hid (MB.setRow T7.out.R (eraN m2))
    have FIN := hid (below_setRow T7.out.bel (g := w.heap.size + 1) (by omega) (eraN m2).ag)
    have OF := hid ((O7.out.setRow (g := w.heap.size + 1) (by omega) (eraN m2).ag).more (base' := w.heap.size) (by omega))
    go_wp2_with (first
      | (refine wpList_store_mid rfl 40 (.tmp 69) (.tmp 67) rfl w.heap.size 16 (agi (keepL m2.e x)) rfl rfl TH.out SZ.out (agi_one _) ?_; rw [show (agi (keepL m2.e x)).toList = ints (keepL m2.e x) from rfl, ← HW7.out])
      | (refine wpList_loadM rfl (.tmp 2) rfl _ (eraN m2) rfl T7.out.A OKS.out ?_)
      | (refine wpList_storeM rfl (.tmp 4) (.tmp 70) rfl _ zeroM (eraN m2) rfl rfl T7.out.R zeroM_ok OKS.out ?_))
    refine bodyPost_ret (v := _) (hR _ _ _ (eraN m2) rfl hRow.out OKS.out) rfl ?_
    rw [FR.out, FY.out, HE.out]
    exact ⟨A5, c5, by rw [XL.out]; rfl, OF.out, FIN.out⟩
  · have MM := hid (show Ms w w1 m2 by
      rw [hm2]
      unfold eraP er1
      rw [if_neg (by omega)]
      exact S1.out)
    clear hm2 h1 h2
    go_wp2_with fail
    obtain ⟨W2, hW2⟩ : ∃ W2, W2 = w1 := ⟨_, rfl⟩
    rw [← hW2] at MM ⊢
    clear hW2 a5 f5 h6
    have c96 : W2.cell? ⟨w.heap.size, 96, none⟩ = some (.int .i64 m2.ga) := MM.out.A.cga K2.out
    have c99 : W2.cell? ⟨w.heap.size, 99, none⟩ = some (.int .i64 m2.er) := MM.out.A.cer K2.out
    have c100 : W2.cell? ⟨w.heap.size, 100, none⟩ = some (.int .i64 m2.se) := MM.out.A.cse K2.out
    have KN := hid (fun W => show Calls Try.prog 63 #[.int .i64 m2.se, .int .i64 (eraZ m2), .int .i64 40] W (NzA W m2.se (eraZ m2) 40) from refNoises_any (eraZ m2) 40 m2.se W (by omega) HSE.out.1 HSE.out.2)
    have KM := hid (fun W A c (hr : Rs W W.heap.size A (nzL m2.se (eraZ m2) 40)) => show Calls Try.prog 29 #[.agg (ints m2.e).toArray, .int .i64 m2.la, .int .i64 (fade m2.pi m2.er), .slice A 40 c] W (fun e w' => ∃ A c, e = .returned (.tuple #[.slice A 40 c, .int .i64 0]) ∧ Own w' W.heap.size A c (eraX m2) ∧ Below W.heap.size W w') from by
      refine (refMix_any m2.e _ m2.la (fade m2.pi m2.er) A c 40 W K2.out.e hr (nzL_len _ _ _) (by omega) HE64.out (w64_of16 (nzL_in _ _ _))).mono ?_
      rintro e w' ⟨A', c', h1, h2, h3⟩
      rw [(mx_good (h := m2.e) (x := nzL m2.se (eraZ m2) 40) (eraX_good HLA.out)).2] at h1
      have hl := eraX_len HLA.out
      unfold eraX at hl
      rw [hl] at h1
      exact ⟨A', c', h1, h2, h3⟩)
    have XL := hid (eraX_len HLA.out)
    have X64 := hid (show W64 (eraX m2) from w64_of16 (mxL_in _ _ _ _ _))
    have EN := hid (show eraN m2 = { m2 with se := nzE m2.se 40, e := keepL m2.e (eraX m2) } from rfl)
    have KF0 := fun W => refFade_any m2.ga m2.er W
    have KG0 := fun W => refFade_any m2.pi m2.er W
    have fb := fade_range m2.ga m2.er
    have hwz : IntKind.i64.wrap (eraZ m2) = eraZ m2 := by unfold eraZ; rw [IntKind.wrap_i64]; omega
    have hq : (fade m2.ga m2.er).tdiv 4 = eraZ m2 := by unfold eraZ; exact Int.tdiv_eq_ediv_of_nonneg fb.1
    generalize eraX m2 = x at *
    generalize eraZ m2 = z at *
    generalize fade m2.ga m2.er = f at *
    generalize fade m2.pi m2.er = f2 at *
    have KF := hid KF0
    have KG := hid KG0
    clear KF0 KG0 fb
    go_region_held3 (fun w' => w'.cell? ⟨w.heap.size, 96, none⟩ = some (.int .i64 m2.ga) ∧ w'.cell? ⟨w.heap.size, 99, none⟩ = some (.int .i64 m2.er) ∧ w'.cell? ⟨w.heap.size, 100, none⟩ = some (.int .i64 m2.se)) (first | exact ⟨by assumption, by assumption, by assumption⟩ | go_keep) (first
      | (go_at_call 67; (with_reducible refine (KF.out W2.drew).mono ?_); rintro e' wA ⟨rfl, hB⟩; have MA : Ms w wA m2 := MM.out.drew.below hB; have a96 : wA.cell? ⟨w.heap.size, 96, none⟩ = some (.int .i64 m2.ga) := MA.A.cga K2.out; have a99 : wA.cell? ⟨w.heap.size, 99, none⟩ = some (.int .i64 m2.er) := MA.A.cer K2.out; have a100 : wA.cell? ⟨w.heap.size, 100, none⟩ = some (.int .i64 m2.se) := MA.A.cse K2.out; have MA := hid MA; clear hB)
      | (go_at_call 63; (with_reducible refine (KN.out wA).mono ?_); rintro e' w3 ⟨A3, c3, rfl, hO, hB⟩; have M3 : Ms w w3 m2 := MA.out.below hB; have d96 : w3.cell? ⟨w.heap.size, 96, none⟩ = some (.int .i64 m2.ga) := M3.A.cga K2.out; have d99 : w3.cell? ⟨w.heap.size, 99, none⟩ = some (.int .i64 m2.er) := M3.A.cer K2.out; have d100 : w3.cell? ⟨w.heap.size, 100, none⟩ = some (.int .i64 m2.se) := M3.A.cse K2.out; have M3 := hid M3; have O3 := hid (hO.more (base' := w.heap.size + 2) MA.out.lt); clear hO hB))
    rename_i hHeldZ
    clear hHeldZ
    clear c96 c99 c100 a96 a99 a100 d96 d99 d100 hq hwz MM KN KF MA
    have rg4 : w3.rangeAt w.heap.size 16 (ints m2.e) := M3.out.A.E K2.out
    have c98 : w3.cell? ⟨w.heap.size, 98, none⟩ = some (.int .i64 m2.la) := M3.out.A.cla K2.out
    have c97 : w3.cell? ⟨w.heap.size, 97, none⟩ = some (.int .i64 m2.pi) := M3.out.A.cpi K2.out
    have c99 : w3.cell? ⟨w.heap.size, 99, none⟩ = some (.int .i64 m2.er) := M3.out.A.cer K2.out
    have hu80 := Try.underlying40
    have hi80 : (Try.prog.info? 40).map (·.size) = some (ints m2.e).length := by rw [ints_len, K2.out.e]; exact size80k
    simp only [Exit.then]
    go_wp2_with fail
    go_region_held3 (fun w' => w'.rangeAt w.heap.size 16 (ints m2.e) ∧ w'.cell? ⟨w.heap.size, 98, none⟩ = some (.int .i64 m2.la) ∧ w'.cell? ⟨w.heap.size, 97, none⟩ = some (.int .i64 m2.pi) ∧ w'.cell? ⟨w.heap.size, 99, none⟩ = some (.int .i64 m2.er)) (first | exact ⟨by assumption, by assumption, by assumption, by assumption⟩ | go_keep) (first
      | (go_at_call 67; (with_reducible refine (KG.out w3.drew).mono ?_); rintro e' wB ⟨rfl, hB⟩; have MB1 : Ms w wB m2 := M3.out.drew.below hB; have rgB : wB.rangeAt w.heap.size 16 (ints m2.e) := MB1.A.E K2.out; have b98 : wB.cell? ⟨w.heap.size, 98, none⟩ = some (.int .i64 m2.la) := MB1.A.cla K2.out; have b97 : wB.cell? ⟨w.heap.size, 97, none⟩ = some (.int .i64 m2.pi) := MB1.A.cpi K2.out; have b99 : wB.cell? ⟨w.heap.size, 99, none⟩ = some (.int .i64 m2.er) := MB1.A.cer K2.out; have MB1 := hid MB1; have RB := hid ((O3.out.drew.below hB).reads); clear hB)
      | (go_at_call 29; (with_reducible refine (KM.out wB A3 c3 RB.out).mono ?_); rintro e' w5 ⟨A5, c5, rfl, hO, hB⟩; have M5 : Ms w w5 m2 := MB1.out.below hB; have rg5 : w5.rangeAt w.heap.size 16 (ints m2.e) := M5.A.E K2.out; have d98 : w5.cell? ⟨w.heap.size, 98, none⟩ = some (.int .i64 m2.la) := M5.A.cla K2.out; have d97 : w5.cell? ⟨w.heap.size, 97, none⟩ = some (.int .i64 m2.pi) := M5.A.cpi K2.out; have d99 : w5.cell? ⟨w.heap.size, 99, none⟩ = some (.int .i64 m2.er) := M5.A.cer K2.out; have M5 := hid M5; have O5 := hid (hO.more (base' := w.heap.size + 2) MB1.out.lt); clear hO hB))
    rename_i hHeldZ
    clear hHeldZ
    clear rg4 c98 c97 c99 rgB b98 b97 b99 rg5 d98 d97 d99 hu80 KM KG M3 O3 MB1 RB
    have c100 : w5.cell? ⟨w.heap.size, 100, none⟩ = some (.int .i64 m2.se) := M5.out.A.cse K2.out
    have f100 : w5.frozen? ⟨w.heap.size, 100, none⟩ = false := MB.frozen M5.out.A 100
    have K3 := hid (K2.out.se (nzE m2.se 40))
    have M6 := hid (M5.out.se K2.out (nzE m2.se 40))
    have O6 := hid (Own.setC (g := w.heap.size) O5.out (by omega) 100 (.int .i64 (nzE m2.se 40)))
    have KL := hid (keepL_len K2.out.e XL.out)
    have KK := hid (fun W A c (h : Rs W W.heap.size A x) => show Calls Try.prog 31 #[.agg (ints m2.e).toArray, .slice A 40 c] W (Keeps W m2.e x 40) from refKeep_any m2.e _ A c 40 W K2.out.e h XL.out (by omega) X64.out)
    have HI80 := hid hi80
    clear hi80
    obtain ⟨w6, hw6⟩ : ∃ w6, w6 = w5.setCell ⟨w.heap.size, 100, none⟩ (.int .i64 (nzE m2.se 40)) := ⟨_, rfl⟩
    rw [← hw6] at M6 O6
    have HW6 := hid hw6
    clear hw6
    simp only [Exit.then]
    go_wp2_with (first
      | (rw [← HW6.out])
      | (refine wpList_load_mid rfl 40 (.tmp 63) rfl _ _ rfl (ints m2.e) _ (M6.out.A.E K3.out) Try.underlying40 rfl HI80.out ?_))
    refine (KK.out w6 A5 c5 O6.out.reads).mono ?_
    rintro e w8 ⟨rfl, hB⟩
    have M8 := hid (M6.out.below hB)
    have O8 := hid (O6.out.below hB)
    clear hB M5 M6 O5 O6 KK c100 f100 HW6
    have hKE := hid (show keepA m2.e x 40 = keepL m2.e x from rfl)
    rw [hKE.out]
    have M7 := hid (M8.out.ex K3.out _ KL.out)
    have O7 := hid (Own.setCs (g := w.heap.size) (by omega) (ints (keepL m2.e x)) 16 _ O8.out)
    have SZ := hid (show (Try.prog.info? 40).map (·.size) = some (agi (keepL m2.e x)).size from by rw [agi_size, KL.out]; exact size80k)
    have TH := hid (show w8.there w.heap.size 16 (agi (keepL m2.e x)).size from by rw [agi_size, KL.out]; exact M8.out.A.thereE K3.out)
    have OKS := hid (show (eraN m2).ok by rw [EN.out]; exact (K3.out.ex KL.out))
    obtain ⟨w7, hw7⟩ : ∃ w7, w7 = w8.setCells w.heap.size 16 (ints (keepL m2.e x)) := ⟨_, rfl⟩
    rw [← hw7] at M7 O7
    have HW7 := hid hw7
    have T7 := hid (show Ms w w7 (eraN m2) by rw [EN.out]; exact M7.out)
    clear hw7 M7 EN
    have hRow := hid (MB.setRow T7.out.R (eraN m2))
    have FIN := hid (below_setRow T7.out.bel (g := w.heap.size + 1) (by omega) (eraN m2).ag)
    have OF := hid ((O7.out.setRow (g := w.heap.size + 1) (by omega) (eraN m2).ag).more (base' := w.heap.size) (by omega))
    go_wp2_with (first
      | (refine wpList_store_mid rfl 40 (.tmp 69) (.tmp 67) rfl w.heap.size 16 (agi (keepL m2.e x)) rfl rfl TH.out SZ.out (agi_one _) ?_; rw [show (agi (keepL m2.e x)).toList = ints (keepL m2.e x) from rfl, ← HW7.out])
      | (refine wpList_loadM rfl (.tmp 2) rfl _ (eraN m2) rfl T7.out.A OKS.out ?_)
      | (refine wpList_storeM rfl (.tmp 4) (.tmp 70) rfl _ zeroM (eraN m2) rfl rfl T7.out.R zeroM_ok OKS.out ?_))
    refine bodyPost_ret (v := _) (hR _ _ _ (eraN m2) rfl hRow.out OKS.out) rfl ?_
    rw [FR.out, FY.out, HE.out]
    exact ⟨A5, c5, by rw [XL.out]; rfl, OF.out, FIN.out⟩
  · have MM := hid (show Ms w w1 m2 by
      rw [hm2]
      unfold eraP er1
      rw [if_neg (by omega)]
      exact S1.out)
    clear hm2 h1 h2
    go_wp2_with fail
    obtain ⟨W2, hW2⟩ : ∃ W2, W2 = w1 := ⟨_, rfl⟩
    rw [← hW2] at MM ⊢
    clear hW2 a5 f5
    have c96 : W2.cell? ⟨w.heap.size, 96, none⟩ = some (.int .i64 m2.ga) := MM.out.A.cga K2.out
    have c99 : W2.cell? ⟨w.heap.size, 99, none⟩ = some (.int .i64 m2.er) := MM.out.A.cer K2.out
    have c100 : W2.cell? ⟨w.heap.size, 100, none⟩ = some (.int .i64 m2.se) := MM.out.A.cse K2.out
    have KN := hid (fun W => show Calls Try.prog 63 #[.int .i64 m2.se, .int .i64 (eraZ m2), .int .i64 40] W (NzA W m2.se (eraZ m2) 40) from refNoises_any (eraZ m2) 40 m2.se W (by omega) HSE.out.1 HSE.out.2)
    have KM := hid (fun W A c (hr : Rs W W.heap.size A (nzL m2.se (eraZ m2) 40)) => show Calls Try.prog 29 #[.agg (ints m2.e).toArray, .int .i64 m2.la, .int .i64 (fade m2.pi m2.er), .slice A 40 c] W (fun e w' => ∃ A c, e = .returned (.tuple #[.slice A 40 c, .int .i64 0]) ∧ Own w' W.heap.size A c (eraX m2) ∧ Below W.heap.size W w') from by
      refine (refMix_any m2.e _ m2.la (fade m2.pi m2.er) A c 40 W K2.out.e hr (nzL_len _ _ _) (by omega) HE64.out (w64_of16 (nzL_in _ _ _))).mono ?_
      rintro e w' ⟨A', c', h1, h2, h3⟩
      rw [(mx_good (h := m2.e) (x := nzL m2.se (eraZ m2) 40) (eraX_good HLA.out)).2] at h1
      have hl := eraX_len HLA.out
      unfold eraX at hl
      rw [hl] at h1
      exact ⟨A', c', h1, h2, h3⟩)
    have XL := hid (eraX_len HLA.out)
    have X64 := hid (show W64 (eraX m2) from w64_of16 (mxL_in _ _ _ _ _))
    have EN := hid (show eraN m2 = { m2 with se := nzE m2.se 40, e := keepL m2.e (eraX m2) } from rfl)
    have KF0 := fun W => refFade_any m2.ga m2.er W
    have KG0 := fun W => refFade_any m2.pi m2.er W
    have fb := fade_range m2.ga m2.er
    have hwz : IntKind.i64.wrap (eraZ m2) = eraZ m2 := by unfold eraZ; rw [IntKind.wrap_i64]; omega
    have hq : (fade m2.ga m2.er).tdiv 4 = eraZ m2 := by unfold eraZ; exact Int.tdiv_eq_ediv_of_nonneg fb.1
    generalize eraX m2 = x at *
    generalize eraZ m2 = z at *
    generalize fade m2.ga m2.er = f at *
    generalize fade m2.pi m2.er = f2 at *
    have KF := hid KF0
    have KG := hid KG0
    clear KF0 KG0 fb
    go_region_held3 (fun w' => w'.cell? ⟨w.heap.size, 96, none⟩ = some (.int .i64 m2.ga) ∧ w'.cell? ⟨w.heap.size, 99, none⟩ = some (.int .i64 m2.er) ∧ w'.cell? ⟨w.heap.size, 100, none⟩ = some (.int .i64 m2.se)) (first | exact ⟨by assumption, by assumption, by assumption⟩ | go_keep) (first
      | (go_at_call 67; (with_reducible refine (KF.out W2.drew).mono ?_); rintro e' wA ⟨rfl, hB⟩; have MA : Ms w wA m2 := MM.out.drew.below hB; have a96 : wA.cell? ⟨w.heap.size, 96, none⟩ = some (.int .i64 m2.ga) := MA.A.cga K2.out; have a99 : wA.cell? ⟨w.heap.size, 99, none⟩ = some (.int .i64 m2.er) := MA.A.cer K2.out; have a100 : wA.cell? ⟨w.heap.size, 100, none⟩ = some (.int .i64 m2.se) := MA.A.cse K2.out; have MA := hid MA; clear hB)
      | (go_at_call 63; (with_reducible refine (KN.out wA).mono ?_); rintro e' w3 ⟨A3, c3, rfl, hO, hB⟩; have M3 : Ms w w3 m2 := MA.out.below hB; have d96 : w3.cell? ⟨w.heap.size, 96, none⟩ = some (.int .i64 m2.ga) := M3.A.cga K2.out; have d99 : w3.cell? ⟨w.heap.size, 99, none⟩ = some (.int .i64 m2.er) := M3.A.cer K2.out; have d100 : w3.cell? ⟨w.heap.size, 100, none⟩ = some (.int .i64 m2.se) := M3.A.cse K2.out; have M3 := hid M3; have O3 := hid (hO.more (base' := w.heap.size + 2) MA.out.lt); clear hO hB))
    rename_i hHeldZ
    clear hHeldZ
    clear c96 c99 c100 a96 a99 a100 d96 d99 d100 hq hwz MM KN KF MA
    have rg4 : w3.rangeAt w.heap.size 16 (ints m2.e) := M3.out.A.E K2.out
    have c98 : w3.cell? ⟨w.heap.size, 98, none⟩ = some (.int .i64 m2.la) := M3.out.A.cla K2.out
    have c97 : w3.cell? ⟨w.heap.size, 97, none⟩ = some (.int .i64 m2.pi) := M3.out.A.cpi K2.out
    have c99 : w3.cell? ⟨w.heap.size, 99, none⟩ = some (.int .i64 m2.er) := M3.out.A.cer K2.out
    have hu80 := Try.underlying40
    have hi80 : (Try.prog.info? 40).map (·.size) = some (ints m2.e).length := by rw [ints_len, K2.out.e]; exact size80k
    simp only [Exit.then]
    go_wp2_with fail
    go_region_held3 (fun w' => w'.rangeAt w.heap.size 16 (ints m2.e) ∧ w'.cell? ⟨w.heap.size, 98, none⟩ = some (.int .i64 m2.la) ∧ w'.cell? ⟨w.heap.size, 97, none⟩ = some (.int .i64 m2.pi) ∧ w'.cell? ⟨w.heap.size, 99, none⟩ = some (.int .i64 m2.er)) (first | exact ⟨by assumption, by assumption, by assumption, by assumption⟩ | go_keep) (first
      | (go_at_call 67; (with_reducible refine (KG.out w3.drew).mono ?_); rintro e' wB ⟨rfl, hB⟩; have MB1 : Ms w wB m2 := M3.out.drew.below hB; have rgB : wB.rangeAt w.heap.size 16 (ints m2.e) := MB1.A.E K2.out; have b98 : wB.cell? ⟨w.heap.size, 98, none⟩ = some (.int .i64 m2.la) := MB1.A.cla K2.out; have b97 : wB.cell? ⟨w.heap.size, 97, none⟩ = some (.int .i64 m2.pi) := MB1.A.cpi K2.out; have b99 : wB.cell? ⟨w.heap.size, 99, none⟩ = some (.int .i64 m2.er) := MB1.A.cer K2.out; have MB1 := hid MB1; have RB := hid ((O3.out.drew.below hB).reads); clear hB)
      | (go_at_call 29; (with_reducible refine (KM.out wB A3 c3 RB.out).mono ?_); rintro e' w5 ⟨A5, c5, rfl, hO, hB⟩; have M5 : Ms w w5 m2 := MB1.out.below hB; have rg5 : w5.rangeAt w.heap.size 16 (ints m2.e) := M5.A.E K2.out; have d98 : w5.cell? ⟨w.heap.size, 98, none⟩ = some (.int .i64 m2.la) := M5.A.cla K2.out; have d97 : w5.cell? ⟨w.heap.size, 97, none⟩ = some (.int .i64 m2.pi) := M5.A.cpi K2.out; have d99 : w5.cell? ⟨w.heap.size, 99, none⟩ = some (.int .i64 m2.er) := M5.A.cer K2.out; have M5 := hid M5; have O5 := hid (hO.more (base' := w.heap.size + 2) MB1.out.lt); clear hO hB))
    rename_i hHeldZ
    clear hHeldZ
    clear rg4 c98 c97 c99 rgB b98 b97 b99 rg5 d98 d97 d99 hu80 KM KG M3 O3 MB1 RB
    have c100 : w5.cell? ⟨w.heap.size, 100, none⟩ = some (.int .i64 m2.se) := M5.out.A.cse K2.out
    have f100 : w5.frozen? ⟨w.heap.size, 100, none⟩ = false := MB.frozen M5.out.A 100
    have K3 := hid (K2.out.se (nzE m2.se 40))
    have M6 := hid (M5.out.se K2.out (nzE m2.se 40))
    have O6 := hid (Own.setC (g := w.heap.size) O5.out (by omega) 100 (.int .i64 (nzE m2.se 40)))
    have KL := hid (keepL_len K2.out.e XL.out)
    have KK := hid (fun W A c (h : Rs W W.heap.size A x) => show Calls Try.prog 31 #[.agg (ints m2.e).toArray, .slice A 40 c] W (Keeps W m2.e x 40) from refKeep_any m2.e _ A c 40 W K2.out.e h XL.out (by omega) X64.out)
    have HI80 := hid hi80
    clear hi80
    obtain ⟨w6, hw6⟩ : ∃ w6, w6 = w5.setCell ⟨w.heap.size, 100, none⟩ (.int .i64 (nzE m2.se 40)) := ⟨_, rfl⟩
    rw [← hw6] at M6 O6
    have HW6 := hid hw6
    clear hw6
    simp only [Exit.then]
    go_wp2_with (first
      | (rw [← HW6.out])
      | (refine wpList_load_mid rfl 40 (.tmp 63) rfl _ _ rfl (ints m2.e) _ (M6.out.A.E K3.out) Try.underlying40 rfl HI80.out ?_))
    refine (KK.out w6 A5 c5 O6.out.reads).mono ?_
    rintro e w8 ⟨rfl, hB⟩
    have M8 := hid (M6.out.below hB)
    have O8 := hid (O6.out.below hB)
    clear hB M5 M6 O5 O6 KK c100 f100 HW6
    have hKE := hid (show keepA m2.e x 40 = keepL m2.e x from rfl)
    rw [hKE.out]
    have M7 := hid (M8.out.ex K3.out _ KL.out)
    have O7 := hid (Own.setCs (g := w.heap.size) (by omega) (ints (keepL m2.e x)) 16 _ O8.out)
    have SZ := hid (show (Try.prog.info? 40).map (·.size) = some (agi (keepL m2.e x)).size from by rw [agi_size, KL.out]; exact size80k)
    have TH := hid (show w8.there w.heap.size 16 (agi (keepL m2.e x)).size from by rw [agi_size, KL.out]; exact M8.out.A.thereE K3.out)
    have OKS := hid (show (eraN m2).ok by rw [EN.out]; exact (K3.out.ex KL.out))
    obtain ⟨w7, hw7⟩ : ∃ w7, w7 = w8.setCells w.heap.size 16 (ints (keepL m2.e x)) := ⟨_, rfl⟩
    rw [← hw7] at M7 O7
    have HW7 := hid hw7
    have T7 := hid (show Ms w w7 (eraN m2) by rw [EN.out]; exact M7.out)
    clear hw7 M7 EN
    have hRow := hid (MB.setRow T7.out.R (eraN m2))
    have FIN := hid (below_setRow T7.out.bel (g := w.heap.size + 1) (by omega) (eraN m2).ag)
    have OF := hid ((O7.out.setRow (g := w.heap.size + 1) (by omega) (eraN m2).ag).more (base' := w.heap.size) (by omega))
    go_wp2_with (first
      | (refine wpList_store_mid rfl 40 (.tmp 69) (.tmp 67) rfl w.heap.size 16 (agi (keepL m2.e x)) rfl rfl TH.out SZ.out (agi_one _) ?_; rw [show (agi (keepL m2.e x)).toList = ints (keepL m2.e x) from rfl, ← HW7.out])
      | (refine wpList_loadM rfl (.tmp 2) rfl _ (eraN m2) rfl T7.out.A OKS.out ?_)
      | (refine wpList_storeM rfl (.tmp 4) (.tmp 70) rfl _ zeroM (eraN m2) rfl rfl T7.out.R zeroM_ok OKS.out ?_))
    refine bodyPost_ret (v := _) (hR _ _ _ (eraN m2) rfl hRow.out OKS.out) rfl ?_
    rw [FR.out, FY.out, HE.out]
    exact ⟨A5, c5, by rw [XL.out]; rfl, OF.out, FIN.out⟩
end Go.Proofs.Ytniechgbbkkncaa

/- Two arrays of numbers that are the same. -/
namespace Go.Proofs.Ytniechgbbkkncaa
set_option linter.unusedVariables false
set_option linter.unusedSimpArgs false
set_option maxRecDepth 100000
open Go.RowKit

theorem run_equalIn_agi (d : Nat) {t : TypeId} {n : Nat} (ht : Try.prog.underlying t = some (.array n 3)) (xs : List Int) (hl : xs.length = n) (w : World) :
    (Op.equalIn (d + 2) t (.agg (agi xs)) (.agg (agi xs))).run Try.prog w = .ok true w := by
  have hs : ∀ w, (sizeOf 3).run Try.prog w = .ok 1 w := fun w => by kernel_rfl
  have ha : ∀ w, (isAgg 3).run Try.prog w = .ok false w := fun w => by kernel_rfl
  rw [Op.equalIn]
  simp only [Sem.run_bind, run_underlying ht, Result.andThen_ok, hs, Std.Legacy.Range.forIn_eq_forIn_range', Std.Legacy.Range.size, Nat.sub_zero, Nat.add_sub_cancel, Nat.div_one]
  have hl2 : ∀ i ∈ List.range' 0 n 1, i < n := fun i hi => by simpa using (List.mem_range'_1.1 hi).2
  generalize List.range' 0 n 1 = l at hl2 ⊢
  induction l with
  | nil => simp
  | cons i l ih =>
    have hi : i < n := hl2 i (by simp)
    have px : (part 3 (agi xs) (i * 1)).run Try.prog w = .ok (.int .i64 (xs.getD i 0)) w := by
      have hg := agi_get xs i (by omega)
      simp [part, ha, hg]
    have pe : (Op.equalIn (d + 1) 3 (.int .i64 (xs.getD i 0)) (.int .i64 (xs.getD i 0))).run Try.prog w = .ok true w := by
      rw [run_equalIn_int w d 3 .i64 .i64 _ _ Try.underlying3]
      simp
    simp only [List.forIn_cons, Sem.run_bind, px, pe, Result.andThen_ok]
    simp only [Bool.not_true, Bool.false_eq_true, if_false, Sem.run_pure, Result.andThen_ok]
    exact ih fun j hj => hl2 j (by simp [hj])

theorem run_eql_agi {t : TypeId} {n : Nat} (ht : Try.prog.underlying t = some (.array n 3)) (xs : List Int) (hl : xs.length = n) (w : World) :
    (binOp .eql t (.agg (agi xs)) (.agg (agi xs))).run Try.prog w = .ok (.bool true) w := by
  rw [run_eql_struct, run_equalIn_agi 9998 ht xs hl w]
  rfl

/-! An array laid into a new block. -/
theorem Blk.stored {w : World} {g : Nat} {t : TypeId} {cs c2 : Array Value} (h : Blk w g t cs) (o : Obj) : Blk ((w.alloc o).setRow w.heap.size c2) g t cs :=
  Blk.rowFar (Blk.alloc h o) (by have := Blk.lt h; omega)
theorem IB.stored (w : World) (t : TypeId) (zs ys : List Int) : IB ((w.alloc (.cells (agi zs) t)).setRow w.heap.size (agi ys)) w.heap.size t ys := (IB.new w t zs).setRow ys
theorem below_stored (w : World) (o : Obj) (c2 : Array Value) : Below w.heap.size w ((w.alloc o).setRow w.heap.size c2) :=
  below_setRow ((Below.refl _ w).alloc (Nat.le_refl _) o) (Nat.le_refl _) c2
end Go.Proofs.Ytniechgbbkkncaa

/- Two structs of numbers and arrays that are the same. -/
namespace Go.Proofs.Ytniechgbbkkncaa
set_option linter.unusedVariables false
set_option linter.unusedSimpArgs false
set_option maxRecDepth 100000
open Go.RowKit

theorem eqFields_self (d : Nat) (xs : Array Value) : ∀ fs : List Field, (∀ f ∈ fs, ∃ v, (∀ w, (part f.type xs f.offset).run Try.prog w = .ok v w) ∧ ∀ w, (Op.equalIn d f.type v v).run Try.prog w = .ok true w) → ∀ w, (Op.eqFields d xs xs fs).run Try.prog w = .ok true w
  | [], _, w => by simp [Op.eqFields]
  | f :: fs, h, w => by
    obtain ⟨v, h1, h2⟩ := h f (by simp)
    have ih := eqFields_self d xs fs (fun g hg => h g (by simp [hg])) w
    simp only [Op.eqFields, Sem.run_bind, Sem.run_ite]
    split
    · simp only [h1, h2, Result.andThen_ok, Bool.not_true, Bool.false_eq_true, if_false]
      exact ih
    · exact ih
theorem part_row {t : TypeId} {n o : Nat} (hs : ∀ w, (sizeOf t).run Try.prog w = .ok n w) (ha : ∀ w, (isAgg t).run Try.prog w = .ok true w) (cs A xs B : List Value) (he : cs = A ++ (xs ++ B)) (ho : A.length = o) (hl : xs.length = n) (w : World) :
    (part t cs.toArray o).run Try.prog w = .ok (.agg xs.toArray) w := by
  subst he
  subst ho
  subst hl
  have e : (A ++ (xs ++ B)).toArray.extract A.length (A.length + xs.length) = xs.toArray := by
    simp [List.extract_toArray]
  simp only [part, Sem.run_bind, ha, hs, Result.andThen_ok, if_true, Sem.run_pure, e]
theorem part_cell {t : TypeId} {o : Nat} (ha : ∀ w, (isAgg t).run Try.prog w = .ok false w) (cs A B : List Value) (v : Value) (he : cs = A ++ (v :: B)) (ho : A.length = o) (w : World) :
    (part t cs.toArray o).run Try.prog w = .ok v w := by
  subst he
  subst ho
  simp [part, ha]
theorem eql_struct {t : TypeId} (ht : Try.prog.underlying t = some (.struct (Try.prog.fieldsOf t))) (hp : Try.prog.stoodInHeld t = false) (xs : Array Value)
    (h : ∀ f ∈ (Try.prog.fieldsOf t).toList, ∃ v, (∀ w, (part f.type xs f.offset).run Try.prog w = .ok v w) ∧ ∀ w, (Op.equalIn 9999 f.type v v).run Try.prog w = .ok true w) (w : World) :
    (binOp .eql t (.agg xs) (.agg xs)).run Try.prog w = .ok (.bool true) w := by
  rw [run_eql_struct, run_equalIn_struct w 9999 t xs xs ht hp, eqFields_self 9999 xs _ h w]
  rfl
theorem eqi (x : Int) (w : World) : (Op.equalIn 9999 3 (.int .i64 x) (.int .i64 x)).run Try.prog w = .ok true w := by
  rw [run_equalIn_int w 9998 3 .i64 .i64 _ _ Try.underlying3]
  simp
theorem eqb (x : Bool) (w : World) : (Op.equalIn 9999 4 (.bool x) (.bool x)).run Try.prog w = .ok true w := by
  rw [run_equalIn_bool' w 9998 4 _ _ Try.underlying4]
  simp
/-- What a high-pass remembers is the same as itself. -/
theorem run_eql_high (xs : List Int) (hl : xs.length = 4) (w : World) : (binOp .eql 24 (.agg (agi xs)) (.agg (agi xs))).run Try.prog w = .ok (.bool true) w := by
  match xs, hl with
  | [a, b, c, d], _ =>
    refine eql_struct (by kernel_rfl) (by kernel_rfl) _ (fun f hf => ?_) w
    have hm : (f.type, f.offset) ∈ [(22, 0), (22, 2)] := by
      have e : (Try.prog.fieldsOf 24).toList.map (fun f => (f.type, f.offset)) = [(22, 0), (22, 2)] := by kernel_rfl
      rw [← e]
      exact List.mem_map_of_mem hf
    simp only [List.mem_cons, List.not_mem_nil, or_false, Prod.mk.injEq] at hm
    rcases hm with ⟨h1, h2⟩ | ⟨h1, h2⟩
    · rw [h1, h2]
      exact ⟨.agg (agi [a, b]), fun w => part_row (n := 2) (fun _ => by kernel_rfl) (fun _ => by kernel_rfl) _ [] (ints [a, b]) (ints [c, d]) rfl rfl rfl w, fun w => run_equalIn_agi 9997 Try.underlying22 [a, b] rfl w⟩
    · rw [h1, h2]
      exact ⟨.agg (agi [c, d]), fun w => part_row (n := 2) (fun _ => by kernel_rfl) (fun _ => by kernel_rfl) _ (ints [a, b]) (ints [c, d]) [] rfl rfl rfl w, fun w => run_equalIn_agi 9997 Try.underlying22 [c, d] rfl w⟩
/-- A memory is the same as itself. -/
theorem run_eql_mem (m : Mm) (k : m.ok) (w : World) : (binOp .eql 42 (.agg m.ag) (.agg m.ag)).run Try.prog w = .ok (.bool true) w := by
  refine eql_struct (by kernel_rfl) (by kernel_rfl) _ (fun f hf => ?_) w
  have hm : (f.type, f.offset) ∈ [(39, 0), (39, 8), (40, 16), (3, 96), (3, 97), (3, 98), (3, 99), (3, 100), (4, 101)] := by
    have e : (Try.prog.fieldsOf 42).toList.map (fun f => (f.type, f.offset)) = [(39, 0), (39, 8), (40, 16), (3, 96), (3, 97), (3, 98), (3, 99), (3, 100), (4, 101)] := by kernel_rfl
    rw [← e]
    exact List.mem_map_of_mem hf
  simp only [List.mem_cons, List.not_mem_nil, or_false, Prod.mk.injEq] at hm
  have l16 : (ints m.r ++ ints m.p).length = 16 := by simp only [List.length_append, ints_len, k.r, k.p]
  have l96 : (ints m.r ++ (ints m.p ++ ints m.e)).length = 96 := by simp only [List.length_append, ints_len, k.r, k.p, k.e]
  have e96 : m.cs = (ints m.r ++ (ints m.p ++ ints m.e)) ++ m.tl := by unfold Mm.cs Mm.tl; simp only [List.append_assoc]
  have ic : ∀ (o : Nat) (A B : List Value) (x : Int), m.tl = A ++ (.int .i64 x :: B) → 96 + A.length = o → ∃ v, (∀ w, (part 3 m.ag o).run Try.prog w = .ok v w) ∧ ∀ w, (Op.equalIn 9999 3 v v).run Try.prog w = .ok true w := fun o A B x hx ho =>
    ⟨.int .i64 x, fun w => part_cell (fun _ => by kernel_rfl) m.cs ((ints m.r ++ (ints m.p ++ ints m.e)) ++ A) B (.int .i64 x) (by rw [e96, hx]; simp only [List.append_assoc]) (by rw [List.length_append, l96, ho]) w, eqi x⟩
  rcases hm with ⟨h1, h2⟩ | ⟨h1, h2⟩ | ⟨h1, h2⟩ | ⟨h1, h2⟩ | ⟨h1, h2⟩ | ⟨h1, h2⟩ | ⟨h1, h2⟩ | ⟨h1, h2⟩ | ⟨h1, h2⟩ <;> rw [h1, h2]
  · exact ⟨.agg (agi m.r), fun w => part_row (n := 8) (fun _ => by kernel_rfl) (fun _ => by kernel_rfl) m.cs [] (ints m.r) _ rfl rfl (by rw [ints_len, k.r]) w, fun w => run_equalIn_agi 9997 Try.underlying39 _ k.r w⟩
  · exact ⟨.agg (agi m.p), fun w => part_row (n := 8) (fun _ => by kernel_rfl) (fun _ => by kernel_rfl) m.cs (ints m.r) (ints m.p) _ rfl (by rw [ints_len, k.r]) (by rw [ints_len, k.p]) w, fun w => run_equalIn_agi 9997 Try.underlying39 _ k.p w⟩
  · exact ⟨.agg (agi m.e), fun w => part_row (n := 80) (fun _ => by kernel_rfl) (fun _ => by kernel_rfl) m.cs (ints m.r ++ ints m.p) (ints m.e) m.tl (by unfold Mm.cs Mm.tl; simp only [List.append_assoc]) l16 (by rw [ints_len, k.e]) w, fun w => run_equalIn_agi 9997 Try.underlying40 _ k.e w⟩
  · exact ic 96 [] _ m.ga rfl rfl
  · exact ic 97 [_] _ m.pi rfl rfl
  · exact ic 98 [_, _] _ m.la rfl rfl
  · exact ic 99 [_, _, _] _ m.er rfl rfl
  · exact ic 100 [_, _, _, _] _ m.se rfl rfl
  · exact ⟨.bool m.si, fun w => part_cell (fun _ => by kernel_rfl) m.cs ((ints m.r ++ (ints m.p ++ ints m.e)) ++ [.int .i64 m.ga, .int .i64 m.pi, .int .i64 m.la, .int .i64 m.er, .int .i64 m.se]) [] (.bool m.si) (by rw [e96]; unfold Mm.tl; simp only [List.append_assoc]; rfl) (by rw [List.length_append, l96]; rfl) w, eqb m.si⟩
end Go.Proofs.Ytniechgbbkkncaa

/- The walk of the law ConcealErases. -/
namespace Go.Proofs.Ytniechgbbkkncaa
set_option linter.unusedVariables false
set_option linter.unusedSimpArgs false
set_option maxRecDepth 100000
open Go.RowKit

/-- Behind a call: the box, the answer's box, the answer's samples. -/
structure LMx (w V : World) (m mm : Mm) (Y : List Int) (A : Option Addr) (g : Nat) : Prop where
  J : MB V w.heap.size m
  Q : MB V g mm
  R : Rs V V.heap.size A Y
  B : Below w.heap.size w V
theorem LMx.below {w V V' : World} {m mm : Mm} {Y : List Int} {A : Option Addr} {g : Nat} (s : LMx w V m mm Y A g) (hb : Below V.heap.size V V') : LMx w V' m mm Y A g :=
  ⟨Blk.below' s.J hb, Blk.below' s.Q hb, (s.R.below hb).more hb.size, s.B.trans (hb.mono s.B.size)⟩
theorem newzero (w : World) : MB (w.alloc (.cells Try.zeroCells42 42)) w.heap.size zeroM := by rw [zeroM_ag]; exact MB.new w zeroM
theorem storedM (w : World) (mm : Mm) : MB ((w.alloc (.cells Try.zeroCells42 42)).setRow w.heap.size mm.ag) w.heap.size mm := (newzero w).setRow mm
theorem eraY_fresh : (eraY freshM 0).length = 40 := by
  have : eraB freshM 0 = true := by decide
  unfold eraY
  rw [if_pos this]
  exact eraX_len (m := eraP freshM 0) ⟨by decide, by decide⟩

set_option maxHeartbeats 4000000 in
theorem walkConcealErases (w : World) (m : Mm) (k : m.ok) (hw64 : W64 m.nums) (half : Int) (_ : -9223372036854775808 ≤ half ∧ half ≤ 9223372036854775807) :
    Calls Try.prog 9 #[.agg m.ag, .int .i64 half] w fun e w' => e = .returned (.bool true) ∧ Below w.heap.size w w' := by
  have K1 := hid (fun W => erased_any m k half W)
  have K2 := hid (fun W => refErased_any m k hw64 half W)
  have K3 := hid (fun W => refFresh_any W)
  have K4 := hid (fun W => erased_any freshM freshM_ok 0 W)
  have HK := hid (eraR_ok k half)
  have HF := hid (eraR_ok freshM_ok 0)
  have HYF := hid eraY_fresh
  have HY40 := hid (eraY_len m half)
  have heq := fun w => run_eql_mem (eraR m half) (eraR_ok k half) w
  obtain ⟨mm, hmm⟩ : ∃ mm, mm = eraR m half := ⟨_, rfl⟩
  obtain ⟨Y, hYY⟩ : ∃ Y, Y = eraY m half := ⟨_, rfl⟩
  obtain ⟨er, her⟩ : ∃ er, er = errOf (eraB m half) := ⟨_, rfl⟩
  obtain ⟨mf, hmf⟩ : ∃ mf, mf = eraR freshM 0 := ⟨_, rfl⟩
  obtain ⟨YF, hYF⟩ : ∃ YF, YF = eraY freshM 0 := ⟨_, rfl⟩
  obtain ⟨ef, hef⟩ : ∃ ef, ef = errOf (eraB freshM 0) := ⟨_, rfl⟩
  rw [← hmm, ← hYY, ← her] at K1 K2
  rw [← hmf, ← hYF, ← hef] at K4
  rw [← hmm] at HK heq
  rw [← hmf] at HF
  rw [← hYF] at HYF
  rw [← hYY] at HY40
  clear hmm hYY her hmf hYF hef
  have I0 := hid (MB.new w m)
  have L0 := hid ((Below.refl _ w).alloc (Nat.le_refl _) (.cells m.ag 42))
  have K := hid k
  clear k hw64
  go_enter Try.func9, Try.ntmps9
  go_wp2_with (refine wpList_loadM rfl (.tmp 2) rfl _ m rfl I0.out K.out ?_)
  refine (K1.out _).mono ?_
  rintro e w1 ⟨A1, c1, rfl, hO, hB⟩
  have I1 := hid (Blk.below' I0.out hB)
  have L1 := hid (L0.out.trans (hB.mono L0.out.size))
  have R1 := hid hO.reads
  clear hO hB I0 L0
  go_wp2_with (first
    | (refine wpList_storeM rfl (.tmp 5) (.tmp 18) rfl _ zeroM mm rfl rfl (newzero w1) zeroM_ok HK.out ?_
       have B1 := below_stored w1 (.cells Try.zeroCells42 42) mm.ag
       obtain ⟨V, hV⟩ : ∃ V, V = (w1.alloc (.cells Try.zeroCells42 42)).setRow w1.heap.size mm.ag := ⟨_, rfl⟩
       have SV := hid (show LMx w V m mm Y A1 w1.heap.size by rw [hV]; exact ⟨Blk.below' I1.out B1, storedM w1 mm, (R1.out.below B1).more B1.size, L1.out.trans (B1.mono L1.out.size)⟩)
       rw [← hV]
       clear hV B1 I1 R1 L1)
    | (refine wpList_loadM rfl (.tmp 2) rfl _ m rfl SV.out.J K.out ?_))
  refine (K2.out _).mono ?_
  rintro e w2 ⟨A2, c2, rfl, hO, hB⟩
  have S2 := hid (SV.out.below hB)
  have R2 := hid hO.reads
  clear hO hB SV
  go_wp2_with (refine wpList_storeM rfl (.tmp 8) (.tmp 25) rfl _ zeroM mm rfl rfl (newzero w2) zeroM_ok HK.out ?_
               have B2 := below_stored w2 (.cells Try.zeroCells42 42) mm.ag
               obtain ⟨V2, hV⟩ : ∃ V, V = (w2.alloc (.cells Try.zeroCells42 42)).setRow w2.heap.size mm.ag := ⟨_, rfl⟩
               have S3 := hid (show LMx w V2 m mm Y A1 w1.heap.size by rw [hV]; exact S2.out.below B2)
               have Q3 := hid (show MB V2 w2.heap.size mm by rw [hV]; exact storedM w2 mm)
               have R3 := hid (show Rs V2 V2.heap.size A2 Y by rw [hV]; exact (R2.out.below B2).more B2.size)
               rw [← hV]
               clear hV B2 S2 R2)
  refine (K3.out _).mono ?_
  rintro e w3 ⟨rfl, hB⟩
  have S4 := hid (S3.out.below hB)
  have Q4 := hid (Blk.below' Q3.out hB)
  have R4 := hid ((R3.out.below hB).more hB.size)
  clear hB S3 Q3 R3
  go_wp2_with fail
  refine (K4.out _).mono ?_
  rintro e w4 ⟨A4, c4, rfl, hO, hB⟩
  have S5 := hid (S4.out.below hB)
  have Q5 := hid (Blk.below' Q4.out hB)
  have R5 := hid ((R4.out.below hB).more hB.size)
  clear hB hO S4 Q4 R4
  rw [HYF.out]
  go_wp2_with (first
    | (refine wpList_storeM rfl (.tmp 11) (.tmp 31) rfl _ zeroM mf rfl rfl (newzero w4) zeroM_ok HF.out ?_
       have B4 := below_stored w4 (.cells Try.zeroCells42 42) mf.ag
       obtain ⟨V3, hV⟩ : ∃ V, V = (w4.alloc (.cells Try.zeroCells42 42)).setRow w4.heap.size mf.ag := ⟨_, rfl⟩
       have S6 := hid (show LMx w V3 m mm Y A1 w1.heap.size by rw [hV]; exact S5.out.below B4)
       have Q6 := hid (show MB V3 w2.heap.size mm by rw [hV]; exact Blk.below' Q5.out B4)
       have R6 := hid (show Rs V3 V3.heap.size A2 Y by rw [hV]; exact (R5.out.below B4).more B4.size)
       rw [← hV]
       clear hV B4 S5 Q5 R5)
    | (refine wpList_loadM rfl (.tmp 5) rfl _ mm rfl S6.out.Q HK.out ?_)
    | (refine wpList_loadM rfl (.tmp 8) rfl _ mm rfl Q6.out HK.out ?_))
  refine (Same_yes A1 A2 c1 c2 Y.length _ _ Y _ S6.out.R R6.out rfl (by have := HY40.out; omega)).mono ?_
  rintro e w8 ⟨rfl, hB⟩
  have S8 := hid (S6.out.below hB)
  clear hB
  go_wp2
  go_ret
  exact ⟨by simp, S8.out.B⟩
end Go.Proofs.Ytniechgbbkkncaa
