/- The walks of the program's quant.All and Values, the reference's QuantAll and Values, and of the law QuantAlls. -/
import Derived.Test.YtnielfleokbloaaDoorQuantO
import Derived.Test.YtnielfleokbloaaDoorMixW
import Derived.Test.YtnielfleokbloaaDoorEqA
import Derived.Test.YtnielfleokbloaaDoorPastM
namespace Go.Proofs.YtnielfleokbloaaDoor
set_option linter.unusedVariables false
set_option linter.unusedSimpArgs false
set_option maxRecDepth 100000
open Go.RowKit

/-- The first error of n numbers. -/
def aE (EF : Int → Int → Int) (ks : List Int) : Nat → Int
  | 0 => 0
  | n + 1 => if aE EF ks n = 0 then EF (n : Nat) (ks.getD n 0) else aE EF ks n
def aF (VF : Int → Int → Int) (ks : List Int) (j : Nat) : Int := VF (j : Nat) (ks.getD j 0)
def aL (VF EF : Int → Int → Int) (ks : List Int) : List Int := if aE EF ks 8 = 0 then (List.range 8).map (aF VF ks) else Z8
theorem aL_len (VF EF : Int → Int → Int) (ks : List Int) : (aL VF EF ks).length = 8 := by unfold aL; split <;> simp [Z8]
theorem aE_stop {EF : Int → Int → Int} {ks : List Int} {n : Nat} (h : aE EF ks n ≠ 0) : ∀ m, n ≤ m → aE EF ks m = aE EF ks n := by
  intro m hm
  induction m with
  | zero => obtain rfl : n = 0 := by omega
            rfl
  | succ m ih =>
    by_cases h2 : n = m + 1
    · rw [h2]
    · have := ih (by omega)
      rw [aE, if_neg (by rw [this]; exact h), this]
def AAns (VF EF : Int → Int → Int) (ks : List Int) (w : World) (e : Ending) (w' : World) : Prop :=
  e = .returned (.tuple #[.agg (agi (aL VF EF ks)), .int .i64 (aE EF ks 8)]) ∧ Below w.heap.size w w'

/-- The boxes: the numbers, the answer's, the ones that are made. -/
structure Sq (w wr : World) (ks ys : List Int) : Prop where
  A : IB wr w.heap.size 30 ks
  R : IB wr (w.heap.size + 1) 30 Z8
  O : IB wr (w.heap.size + 2) 30 ys
  B : Below w.heap.size w wr
theorem Sq.start (w : World) (ks : List Int) : Sq w (((w.alloc (.cells (agi ks) 30)).alloc (.cells (agi Z8) 30)).alloc (.cells (agi Z8) 30)) ks Z8 := by
  have h1 := IB.new w 30 ks
  have h2 := IB.new (w.alloc (.cells (agi ks) 30)) 30 Z8
  have h3 := IB.new ((w.alloc (.cells (agi ks) 30)).alloc (.cells (agi Z8) 30)) 30 Z8
  simp only [World.size_alloc] at h2 h3
  exact ⟨Blk.alloc (Blk.alloc h1 _) _, Blk.alloc h2 _, h3, ((((Below.refl _ _).alloc (Nat.le_refl _) _).alloc (by simp) _).alloc (by simp; omega) _)⟩
theorem Sq.lt {w wr : World} {ks ys : List Int} (h : Sq w wr ks ys) : w.heap.size + 3 ≤ wr.heap.size := Blk.lt h.O
theorem Sq.below {w wr wr' : World} {ks ys : List Int} (h : Sq w wr ks ys) (hb : Below wr.heap.size wr wr') : Sq w wr' ks ys :=
  ⟨Blk.below' h.A hb, Blk.below' h.R hb, Blk.below' h.O hb, h.B.trans (hb.mono (by have := h.lt; omega))⟩
theorem Sq.set_ {w wr : World} {ks ys : List Int} (h : Sq w wr ks ys) (i : Nat) (x : Int) : Sq w (wr.setCell ⟨w.heap.size + 2, i, none⟩ (.int .i64 x)) ks (ys.set i x) :=
  ⟨Blk.far h.A (p := ⟨w.heap.size + 2, i, none⟩) (show w.heap.size ≠ w.heap.size + 2 by omega) _, Blk.far h.R (p := ⟨w.heap.size + 2, i, none⟩) (show w.heap.size + 1 ≠ w.heap.size + 2 by omega) _, IB.set_ h.O i x,
    h.B.setCell (p := ⟨w.heap.size + 2, i, none⟩) (show w.heap.size ≤ w.heap.size + 2 by omega) _⟩
theorem upto_set {f : Nat → Int} {ys : List Int} {n : Nat} (hl : ys.length = 8) (h : ∀ j, j < n → ys.getD j 0 = f j) (hn : n < 8) : (ys.set n (f n)).length = 8 ∧ ∀ j, j < n + 1 → (ys.set n (f n)).getD j 0 = f j := by
  refine ⟨by simpa using hl, fun j hj => ?_⟩
  by_cases e : n = j
  · subst e; exact get_set_same _ _ _ (by omega)
  · rw [get_set_other _ _ e]; exact h j (by omega)
theorem upto_all {f : Nat → Int} {ys : List Int} (hl : ys.length = 8) (h : ∀ j, j < 8 → ys.getD j 0 = f j) : ys = (List.range 8).map f :=
  list_ext (by simpa using hl) fun k hk => by rw [hl] at hk; rw [h k hk, range_get f hk]

set_option maxHeartbeats 2000000 in
theorem quantAll_any (ks : List Int) (w : World) (hl : ks.length = 8) (T : TabA w 4 widthL) :
    Calls Tryd.prog 28 #[.agg (agi ks)] w (AAns qV qErr ks w) := by
  have hR := results_row2 (fn := Tryd.f28) (p := 2) (q := 3) (ty := 30) rfl
  have S0 := Sq.start w ks
  rw [z8_eq] at S0
  have S0 := hid S0
  have KC := hid (fun i k w' (h : Below w.heap.size w w') => quantOne_any i k w' (T.below' h (Nat.le_refl _)))
  have HIX := hid (fun (k : Nat) (hk : k < 8) (w : World) => run_index_agi Tryd.underlying30 ks hl k hk w)
  have HL := hid hl
  clear T hl
  go_enter Tryd.func28, Tryd.ntmps28
  go_wp2_with (refine wpList_loadI rfl 30 (.tmp 1) rfl _ 30 ks 8 _ rfl S0.out.A Tryd.underlying30 rfl size8 HL.out ?_)
  go_loopw [10] (fun iv wr => ∃ (n : Nat) (ys : List Int), n ≤ 8 ∧ iv = .int .i64 n ∧ Hid (aE qErr ks n = 0) ∧ Hid (ys.length = 8 ∧ ∀ j, j < n → ys.getD j 0 = aF qV ks j) ∧ Hid (Sq w wr ks ys)) (fun iv _ => 8 - (intOf iv).toNat)
  case atStart => exact ⟨0, Z8, by omega, rfl, hid rfl, hid ⟨rfl, fun j h => by omega⟩, S0⟩
  case round =>
    clear S0
    obtain ⟨n, ys, hn, rfl, HE, HY, HS⟩ := hrel
    by_cases hlt : n < 8
    · have K := KC.out (n : Nat) (ks.getD n 0) wr HS.out.B
      unfold OneAns at K
      have hix := HIX.out n hlt
      have ca := IB.cell HS.out.A n (by rw [HL.out]; exact hlt)
      have HV := hid (show aF qV ks n = qV (n : Nat) (ks.getD n 0) from rfl)
      have HE1 := hid (show aE qErr ks (n + 1) = qErr (n : Nat) (ks.getD n 0) by rw [aE, if_pos HE.out])
      generalize qV (n : Nat) (ks.getD n 0) = v at *
      generalize qErr (n : Nat) (ks.getD n 0) = er at *
      generalize ks.getD n 0 = x at *
      have K' := hid K
      clear K
      by_cases h0 : er = 0
      · subst h0
        go_wp2_with fail
        refine K'.out.mono ?_
        rintro e w1 ⟨rfl, rfl⟩
        have HS2 := HS
        have co := IB.cell HS2.out.O n (by rw [HY.out.1]; exact hlt)
        have fo := Blk.frozen HS2.out.O n
        have HY2 := hid (upto_set HY.out.1 HY.out.2 hlt)
        rw [HV.out] at HY2
        have HS3 := hid (HS2.out.set_ n v)
        clear ca hix
        go_wp2
        go_roundw
        case rel => exact ⟨n + 1, _, by omega, by go_num, HE1, HY2, HS3⟩
        case measure => simp [intOf] <;> omega
      · have e1 : (er != 0) = true := by simpa using h0
        have e2 : (er == 0) = false := by simpa using h0
        have HF := hid (show aE qErr ks 8 = er by rw [← HE1.out]; exact aE_stop (by rw [HE1.out]; exact h0) 8 (by omega))
        have HF2 := hid (show aL qV qErr ks = Z8 by unfold aL; rw [HF.out, if_neg h0])
        clear h0
        go_wp2_with fail
        refine K'.out.mono ?_
        rintro e w1 ⟨rfl, rfl⟩
        have HS2 := HS
        clear ca hix
        go_wp2_with (refine wpList_storeI rfl 30 (.tmp 2) (.tmp 22) rfl _ 30 Z8 Z8 8 rfl rfl HS2.out.R size8 rfl rfl ?_)
        refine bodyPost_ret (v := _) (hR _ _ _ 30 Z8 _ 8 rfl (IB.setRow HS2.out.R Z8) Tryd.underlying30 rfl size8 rfl) rfl ?_
        exact ⟨by rw [HF.out, HF2.out]; rfl, below_setRow HS2.out.B (by omega) _⟩
    · obtain rfl : n = 8 := by omega
      have HF2 := hid (show aL qV qErr ks = ys by unfold aL; rw [if_pos HE.out]; exact (upto_all HY.out.1 HY.out.2).symm)
      have HYL := hid HY.out.1
      go_wp2_with (first
        | (refine wpList_loadI rfl 30 (.tmp 4) rfl _ 30 ys 8 _ rfl HS.out.O Tryd.underlying30 rfl size8 HYL.out ?_)
        | (refine wpList_storeI rfl 30 (.tmp 2) (.tmp 28) rfl _ 30 Z8 ys 8 rfl rfl HS.out.R size8 rfl HYL.out ?_))
      refine bodyPost_ret (v := _) (hR _ _ _ 30 ys _ 8 rfl (IB.setRow HS.out.R ys) Tryd.underlying30 rfl size8 HYL.out) rfl ?_
      exact ⟨by rw [HE.out, HF2.out]; rfl, below_setRow HS.out.B (by omega) _⟩

set_option maxHeartbeats 2000000 in
theorem quantValues_any (ks : List Int) (w : World) (hl : ks.length = 8) (T : TabA w 4 widthL) :
    Calls Tryd.prog 30 #[.agg (agi ks)] w (AAns lvV lvErr ks w) := by
  have hR := results_row2 (fn := Tryd.f30) (p := 2) (q := 3) (ty := 30) rfl
  have S0 := Sq.start w ks
  rw [z8_eq] at S0
  have S0 := hid S0
  have KC := hid (fun i k w' (h : Below w.heap.size w w') => quantLevel_any i k w' (T.below' h (Nat.le_refl _)))
  have HIX := hid (fun (k : Nat) (hk : k < 8) (w : World) => run_index_agi Tryd.underlying30 ks hl k hk w)
  have HL := hid hl
  clear T hl
  go_enter Tryd.func30, Tryd.ntmps30
  go_wp2_with (refine wpList_loadI rfl 30 (.tmp 1) rfl _ 30 ks 8 _ rfl S0.out.A Tryd.underlying30 rfl size8 HL.out ?_)
  go_loopw [10] (fun iv wr => ∃ (n : Nat) (ys : List Int), n ≤ 8 ∧ iv = .int .i64 n ∧ Hid (aE lvErr ks n = 0) ∧ Hid (ys.length = 8 ∧ ∀ j, j < n → ys.getD j 0 = aF lvV ks j) ∧ Hid (Sq w wr ks ys)) (fun iv _ => 8 - (intOf iv).toNat)
  case atStart => exact ⟨0, Z8, by omega, rfl, hid rfl, hid ⟨rfl, fun j h => by omega⟩, S0⟩
  case round =>
    clear S0
    obtain ⟨n, ys, hn, rfl, HE, HY, HS⟩ := hrel
    by_cases hlt : n < 8
    · have K := KC.out (n : Nat) (ks.getD n 0) wr HS.out.B
      unfold LvAns at K
      have hix := HIX.out n hlt
      have ca := IB.cell HS.out.A n (by rw [HL.out]; exact hlt)
      have HV := hid (show aF lvV ks n = lvV (n : Nat) (ks.getD n 0) from rfl)
      have HE1 := hid (show aE lvErr ks (n + 1) = lvErr (n : Nat) (ks.getD n 0) by rw [aE, if_pos HE.out])
      generalize lvV (n : Nat) (ks.getD n 0) = v at *
      generalize lvErr (n : Nat) (ks.getD n 0) = er at *
      generalize ks.getD n 0 = x at *
      have K' := hid K
      clear K
      by_cases h0 : er = 0
      · subst h0
        go_wp2_with fail
        refine K'.out.mono ?_
        rintro e w1 ⟨rfl, rfl⟩
        have HS2 := HS
        have co := IB.cell HS2.out.O n (by rw [HY.out.1]; exact hlt)
        have fo := Blk.frozen HS2.out.O n
        have HY2 := hid (upto_set HY.out.1 HY.out.2 hlt)
        rw [HV.out] at HY2
        have HS3 := hid (HS2.out.set_ n v)
        clear ca hix
        go_wp2
        go_roundw
        case rel => exact ⟨n + 1, _, by omega, by go_num, HE1, HY2, HS3⟩
        case measure => simp [intOf] <;> omega
      · have e1 : (er != 0) = true := by simpa using h0
        have e2 : (er == 0) = false := by simpa using h0
        have HF := hid (show aE lvErr ks 8 = er by rw [← HE1.out]; exact aE_stop (by rw [HE1.out]; exact h0) 8 (by omega))
        have HF2 := hid (show aL lvV lvErr ks = Z8 by unfold aL; rw [HF.out, if_neg h0])
        clear h0
        go_wp2_with fail
        refine K'.out.mono ?_
        rintro e w1 ⟨rfl, rfl⟩
        have HS2 := HS
        clear ca hix
        go_wp2_with (refine wpList_storeI rfl 30 (.tmp 2) (.tmp 22) rfl _ 30 Z8 Z8 8 rfl rfl HS2.out.R size8 rfl rfl ?_)
        refine bodyPost_ret (v := _) (hR _ _ _ 30 Z8 _ 8 rfl (IB.setRow HS2.out.R Z8) Tryd.underlying30 rfl size8 rfl) rfl ?_
        exact ⟨by rw [HF.out, HF2.out]; rfl, below_setRow HS2.out.B (by omega) _⟩
    · obtain rfl : n = 8 := by omega
      have HF2 := hid (show aL lvV lvErr ks = ys by unfold aL; rw [if_pos HE.out]; exact (upto_all HY.out.1 HY.out.2).symm)
      have HYL := hid HY.out.1
      go_wp2_with (first
        | (refine wpList_loadI rfl 30 (.tmp 4) rfl _ 30 ys 8 _ rfl HS.out.O Tryd.underlying30 rfl size8 HYL.out ?_)
        | (refine wpList_storeI rfl 30 (.tmp 2) (.tmp 28) rfl _ 30 Z8 ys 8 rfl rfl HS.out.R size8 rfl HYL.out ?_))
      refine bodyPost_ret (v := _) (hR _ _ _ 30 ys _ 8 rfl (IB.setRow HS.out.R ys) Tryd.underlying30 rfl size8 HYL.out) rfl ?_
      exact ⟨by rw [HE.out, HF2.out]; rfl, below_setRow HS.out.B (by omega) _⟩

set_option maxHeartbeats 2000000 in
theorem refQuantAll_any (ks : List Int) (w : World) (hl : ks.length = 8) (T : TabS w 5 widthL) :
    Calls Tryd.prog 29 #[.agg (agi ks)] w (AAns qV qErr ks w) := by
  have hR := results_row2 (fn := Tryd.f29) (p := 2) (q := 3) (ty := 30) rfl
  have S0 := Sq.start w ks
  rw [z8_eq] at S0
  have S0 := hid S0
  have KC := hid (fun i k w' (h : Below w.heap.size w w') => refOne_any i k w' (T.below' h (Nat.le_refl _)))
  have HIX := hid (fun (k : Nat) (hk : k < 8) (w : World) => run_index_agi Tryd.underlying30 ks hl k hk w)
  have HL := hid hl
  clear T hl
  go_enter Tryd.func29, Tryd.ntmps29
  go_wp2
  go_loopw [8] (fun iv wr => ∃ (n : Nat) (ys : List Int), n ≤ 8 ∧ iv = .int .i64 n ∧ Hid (aE qErr ks n = 0) ∧ Hid (ys.length = 8 ∧ ∀ j, j < n → ys.getD j 0 = aF qV ks j) ∧ Hid (Sq w wr ks ys)) (fun iv _ => 8 - (intOf iv).toNat)
  case atStart => exact ⟨0, Z8, by omega, rfl, hid rfl, hid ⟨rfl, fun j h => by omega⟩, S0⟩
  case round =>
    clear S0
    obtain ⟨n, ys, hn, rfl, HE, HY, HS⟩ := hrel
    by_cases hlt : n < 8
    · have K := KC.out (n : Nat) (ks.getD n 0) wr HS.out.B
      unfold OneAnsB at K
      have hix := HIX.out n hlt
      have ca := IB.cell HS.out.A n (by rw [HL.out]; exact hlt)
      have HV := hid (show aF qV ks n = qV (n : Nat) (ks.getD n 0) from rfl)
      have HE1 := hid (show aE qErr ks (n + 1) = qErr (n : Nat) (ks.getD n 0) by rw [aE, if_pos HE.out])
      generalize qV (n : Nat) (ks.getD n 0) = v at *
      generalize qErr (n : Nat) (ks.getD n 0) = er at *
      generalize ks.getD n 0 = x at *
      have K' := hid K
      clear K
      by_cases h0 : er = 0
      · subst h0
        go_wp2_with fail
        refine K'.out.mono ?_
        rintro e w1 ⟨rfl, hB⟩
        have HS2 := hid (HS.out.below hB)
        clear hB
        have co := IB.cell HS2.out.O n (by rw [HY.out.1]; exact hlt)
        have fo := Blk.frozen HS2.out.O n
        have HY2 := hid (upto_set HY.out.1 HY.out.2 hlt)
        rw [HV.out] at HY2
        have HS3 := hid (HS2.out.set_ n v)
        clear ca hix
        go_wp2
        go_roundw
        case rel => exact ⟨n + 1, _, by omega, by go_num, HE1, HY2, HS3⟩
        case measure => simp [intOf] <;> omega
      · have e1 : (er != 0) = true := by simpa using h0
        have e2 : (er == 0) = false := by simpa using h0
        have HF := hid (show aE qErr ks 8 = er by rw [← HE1.out]; exact aE_stop (by rw [HE1.out]; exact h0) 8 (by omega))
        have HF2 := hid (show aL qV qErr ks = Z8 by unfold aL; rw [HF.out, if_neg h0])
        clear h0
        go_wp2_with fail
        refine K'.out.mono ?_
        rintro e w1 ⟨rfl, hB⟩
        have HS2 := hid (HS.out.below hB)
        clear hB
        clear ca hix
        go_wp2_with (refine wpList_storeI rfl 30 (.tmp 2) (.tmp 21) rfl _ 30 Z8 Z8 8 rfl rfl HS2.out.R size8 rfl rfl ?_)
        refine bodyPost_ret (v := _) (hR _ _ _ 30 Z8 _ 8 rfl (IB.setRow HS2.out.R Z8) Tryd.underlying30 rfl size8 rfl) rfl ?_
        exact ⟨by rw [HF.out, HF2.out]; rfl, below_setRow HS2.out.B (by omega) _⟩
    · obtain rfl : n = 8 := by omega
      have HF2 := hid (show aL qV qErr ks = ys by unfold aL; rw [if_pos HE.out]; exact (upto_all HY.out.1 HY.out.2).symm)
      have HYL := hid HY.out.1
      go_wp2_with (first
        | (refine wpList_loadI rfl 30 (.tmp 4) rfl _ 30 ys 8 _ rfl HS.out.O Tryd.underlying30 rfl size8 HYL.out ?_)
        | (refine wpList_storeI rfl 30 (.tmp 2) (.tmp 27) rfl _ 30 Z8 ys 8 rfl rfl HS.out.R size8 rfl HYL.out ?_))
      refine bodyPost_ret (v := _) (hR _ _ _ 30 ys _ 8 rfl (IB.setRow HS.out.R ys) Tryd.underlying30 rfl size8 HYL.out) rfl ?_
      exact ⟨by rw [HE.out, HF2.out]; rfl, below_setRow HS.out.B (by omega) _⟩

set_option maxHeartbeats 2000000 in
theorem refValues_any (ks : List Int) (w : World) (hl : ks.length = 8) (T : TabS w 5 widthL) :
    Calls Tryd.prog 31 #[.agg (agi ks)] w (AAns lvV lvErr ks w) := by
  have hR := results_row2 (fn := Tryd.f31) (p := 2) (q := 3) (ty := 30) rfl
  have S0 := Sq.start w ks
  rw [z8_eq] at S0
  have S0 := hid S0
  have KC := hid (fun i k w' (h : Below w.heap.size w w') => refLevel_any i k w' (T.below' h (Nat.le_refl _)))
  have HIX := hid (fun (k : Nat) (hk : k < 8) (w : World) => run_index_agi Tryd.underlying30 ks hl k hk w)
  have HL := hid hl
  clear T hl
  go_enter Tryd.func31, Tryd.ntmps31
  go_wp2
  go_loopw [8] (fun iv wr => ∃ (n : Nat) (ys : List Int), n ≤ 8 ∧ iv = .int .i64 n ∧ Hid (aE lvErr ks n = 0) ∧ Hid (ys.length = 8 ∧ ∀ j, j < n → ys.getD j 0 = aF lvV ks j) ∧ Hid (Sq w wr ks ys)) (fun iv _ => 8 - (intOf iv).toNat)
  case atStart => exact ⟨0, Z8, by omega, rfl, hid rfl, hid ⟨rfl, fun j h => by omega⟩, S0⟩
  case round =>
    clear S0
    obtain ⟨n, ys, hn, rfl, HE, HY, HS⟩ := hrel
    by_cases hlt : n < 8
    · have K := KC.out (n : Nat) (ks.getD n 0) wr HS.out.B
      unfold LvAns at K
      have hix := HIX.out n hlt
      have ca := IB.cell HS.out.A n (by rw [HL.out]; exact hlt)
      have HV := hid (show aF lvV ks n = lvV (n : Nat) (ks.getD n 0) from rfl)
      have HE1 := hid (show aE lvErr ks (n + 1) = lvErr (n : Nat) (ks.getD n 0) by rw [aE, if_pos HE.out])
      generalize lvV (n : Nat) (ks.getD n 0) = v at *
      generalize lvErr (n : Nat) (ks.getD n 0) = er at *
      generalize ks.getD n 0 = x at *
      have K' := hid K
      clear K
      by_cases h0 : er = 0
      · subst h0
        go_wp2_with fail
        refine K'.out.mono ?_
        rintro e w1 ⟨rfl, rfl⟩
        have HS2 := HS
        have co := IB.cell HS2.out.O n (by rw [HY.out.1]; exact hlt)
        have fo := Blk.frozen HS2.out.O n
        have HY2 := hid (upto_set HY.out.1 HY.out.2 hlt)
        rw [HV.out] at HY2
        have HS3 := hid (HS2.out.set_ n v)
        clear ca hix
        go_wp2
        go_roundw
        case rel => exact ⟨n + 1, _, by omega, by go_num, HE1, HY2, HS3⟩
        case measure => simp [intOf] <;> omega
      · have e1 : (er != 0) = true := by simpa using h0
        have e2 : (er == 0) = false := by simpa using h0
        have HF := hid (show aE lvErr ks 8 = er by rw [← HE1.out]; exact aE_stop (by rw [HE1.out]; exact h0) 8 (by omega))
        have HF2 := hid (show aL lvV lvErr ks = Z8 by unfold aL; rw [HF.out, if_neg h0])
        clear h0
        go_wp2_with fail
        refine K'.out.mono ?_
        rintro e w1 ⟨rfl, rfl⟩
        have HS2 := HS
        clear ca hix
        go_wp2_with (refine wpList_storeI rfl 30 (.tmp 2) (.tmp 21) rfl _ 30 Z8 Z8 8 rfl rfl HS2.out.R size8 rfl rfl ?_)
        refine bodyPost_ret (v := _) (hR _ _ _ 30 Z8 _ 8 rfl (IB.setRow HS2.out.R Z8) Tryd.underlying30 rfl size8 rfl) rfl ?_
        exact ⟨by rw [HF.out, HF2.out]; rfl, below_setRow HS2.out.B (by omega) _⟩
    · obtain rfl : n = 8 := by omega
      have HF2 := hid (show aL lvV lvErr ks = ys by unfold aL; rw [if_pos HE.out]; exact (upto_all HY.out.1 HY.out.2).symm)
      have HYL := hid HY.out.1
      go_wp2_with (first
        | (refine wpList_loadI rfl 30 (.tmp 4) rfl _ 30 ys 8 _ rfl HS.out.O Tryd.underlying30 rfl size8 HYL.out ?_)
        | (refine wpList_storeI rfl 30 (.tmp 2) (.tmp 27) rfl _ 30 Z8 ys 8 rfl rfl HS.out.R size8 rfl HYL.out ?_))
      refine bodyPost_ret (v := _) (hR _ _ _ 30 ys _ 8 rfl (IB.setRow HS.out.R ys) Tryd.underlying30 rfl size8 HYL.out) rfl ?_
      exact ⟨by rw [HE.out, HF2.out]; rfl, below_setRow HS.out.B (by omega) _⟩

set_option maxHeartbeats 4000000 in
theorem walkQuantAlls (w : World) (T0 : TabA w 4 widthL) (T1 : TabS w 5 widthL) (ks : List Int) (hl : ks.length = 8) (_ : W64 ks) :
    Calls Tryd.prog 10 #[.agg (agi ks)] w fun e w' => e = .returned (.bool true) ∧ Below w.heap.size w w' := by
  have K1 := fun w' (h : Below w.heap.size w w') => quantAll_any ks w' hl (T0.below' h (Nat.le_refl _))
  have K2 := fun w' (h : Below w.heap.size w w') => refQuantAll_any ks w' hl (T1.below' h (Nat.le_refl _))
  have K3 := fun w' (h : Below w.heap.size w w') => quantValues_any ks w' hl (T0.below' h (Nat.le_refl _))
  have K4 := fun w' (h : Below w.heap.size w w') => refValues_any ks w' hl (T1.below' h (Nat.le_refl _))
  have K5 := fun w' (h : Below w.heap.size w w') => quantAll_any [32000, 0, 0, 0, 0, 0, 0, 0] w' rfl (T0.below' h (Nat.le_refl _))
  unfold AAns at K1 K2 K3 K4 K5
  have l1 := aL_len qV qErr ks
  have l2 := aL_len lvV lvErr ks
  have l3 := aL_len qV qErr [32000, 0, 0, 0, 0, 0, 0, 0]
  have h63 : (aL qV qErr [32000, 0, 0, 0, 0, 0, 0, 0]).getD 0 0 = 63 := by decide +kernel
  generalize aL qV qErr ks = ya at *
  generalize aL lvV lvErr ks = yb at *
  generalize aL qV qErr [32000, 0, 0, 0, 0, 0, 0, 0] = yc at *
  generalize aE qErr ks 8 = ea at *
  generalize aE lvErr ks 8 = eb at *
  generalize aE qErr [32000, 0, 0, 0, 0, 0, 0, 0] 8 = ec at *
  have heq1 := run_eql_agi Tryd.underlying30 ya l1
  have heq2 := run_eql_agi Tryd.underlying30 yb l2
  have K1' := hid K1
  have K2' := hid K2
  have K3' := hid K3
  have K4' := hid K4
  have K5' := hid K5
  have HL1 := hid l1
  have HL2 := hid l2
  have HL3 := hid l3
  have H63 := hid h63
  have HL := hid hl
  have A0 := hid (IB.new w 30 ks)
  have B0 := hid ((Below.refl w.heap.size w).alloc (Nat.le_refl _) (.cells (agi ks) 30))
  clear K1 K2 K3 K4 K5 l1 l2 l3 h63 hl T0 T1
  go_enter Tryd.func10, Tryd.ntmps10
  go_wp2_with (refine wpList_loadI rfl 30 (.tmp 1) rfl _ 30 ks 8 _ rfl A0.out Tryd.underlying30 rfl size8 HL.out ?_)
  refine (K1'.out _ B0.out).mono ?_
  rintro e u1 ⟨rfl, hB⟩
  have C1 := hid (B0.out.trans (hB.mono B0.out.size))
  have AA1 := hid (Blk.below' A0.out hB)
  clear hB A0 B0
  go_wp2_with (first
    | (refine wpList_storeI rfl 30 (.tmp 3) (.tmp 16) rfl _ 30 Z8 ya 8 rfl rfl (IB.new u1 30 Z8) size8 rfl HL1.out ?_
       obtain ⟨v1, hv1⟩ : ∃ v1, v1 = (u1.alloc (.cells #[Value.int .i64 0, Value.int .i64 0, Value.int .i64 0, Value.int .i64 0, Value.int .i64 0, Value.int .i64 0, Value.int .i64 0, Value.int .i64 0] 30)).setRow u1.heap.size (agi ya) := ⟨_, rfl⟩
       rw [← hv1]
       have B1 := hid (show Below w.heap.size w v1 by rw [hv1]; exact C1.out.trans ((below_stored u1 (.cells (agi Z8) 30) (agi ya)).mono C1.out.size))
       have A1 := hid (show IB v1 w.heap.size 30 ks by rw [hv1]; exact Blk.stored AA1.out (.cells (agi Z8) 30))
       have G1v1 := hid (show IB v1 u1.heap.size 30 ya by rw [hv1]; exact IB.stored u1 30 Z8 ya)
       clear hv1)
    | (refine wpList_loadI rfl 30 (.tmp 1) rfl _ 30 ks 8 _ rfl A1.out Tryd.underlying30 rfl size8 HL.out ?_))
  refine (K2'.out _ B1.out).mono ?_
  rintro e u2 ⟨rfl, hB⟩
  have C2 := hid (B1.out.trans (hB.mono B1.out.size))
  have AA2 := hid (Blk.below' A1.out hB)
  have G1u2 := hid (Blk.below' G1v1.out hB)
  clear hB A1 B1 G1v1
  go_wp2_with (first
    | (refine wpList_storeI rfl 30 (.tmp 5) (.tmp 21) rfl _ 30 Z8 ya 8 rfl rfl (IB.new u2 30 Z8) size8 rfl HL1.out ?_
       obtain ⟨v2, hv2⟩ : ∃ v2, v2 = (u2.alloc (.cells #[Value.int .i64 0, Value.int .i64 0, Value.int .i64 0, Value.int .i64 0, Value.int .i64 0, Value.int .i64 0, Value.int .i64 0, Value.int .i64 0] 30)).setRow u2.heap.size (agi ya) := ⟨_, rfl⟩
       rw [← hv2]
       have B2 := hid (show Below w.heap.size w v2 by rw [hv2]; exact C2.out.trans ((below_stored u2 (.cells (agi Z8) 30) (agi ya)).mono C2.out.size))
       have A2 := hid (show IB v2 w.heap.size 30 ks by rw [hv2]; exact Blk.stored AA2.out (.cells (agi Z8) 30))
       have G2v2 := hid (show IB v2 u2.heap.size 30 ya by rw [hv2]; exact IB.stored u2 30 Z8 ya)
       have G1v2 := hid (show IB v2 u1.heap.size 30 ya by rw [hv2]; exact Blk.stored G1u2.out (.cells (agi Z8) 30))
       clear hv2)
    | (refine wpList_loadI rfl 30 (.tmp 1) rfl _ 30 ks 8 _ rfl A2.out Tryd.underlying30 rfl size8 HL.out ?_))
  refine (K3'.out _ B2.out).mono ?_
  rintro e u3 ⟨rfl, hB⟩
  have C3 := hid (B2.out.trans (hB.mono B2.out.size))
  have AA3 := hid (Blk.below' A2.out hB)
  have G1u3 := hid (Blk.below' G1v2.out hB)
  have G2u3 := hid (Blk.below' G2v2.out hB)
  clear hB A2 B2 G1v2 G2v2
  go_wp2_with (first
    | (refine wpList_storeI rfl 30 (.tmp 7) (.tmp 26) rfl _ 30 Z8 yb 8 rfl rfl (IB.new u3 30 Z8) size8 rfl HL2.out ?_
       obtain ⟨v3, hv3⟩ : ∃ v3, v3 = (u3.alloc (.cells #[Value.int .i64 0, Value.int .i64 0, Value.int .i64 0, Value.int .i64 0, Value.int .i64 0, Value.int .i64 0, Value.int .i64 0, Value.int .i64 0] 30)).setRow u3.heap.size (agi yb) := ⟨_, rfl⟩
       rw [← hv3]
       have B3 := hid (show Below w.heap.size w v3 by rw [hv3]; exact C3.out.trans ((below_stored u3 (.cells (agi Z8) 30) (agi yb)).mono C3.out.size))
       have A3 := hid (show IB v3 w.heap.size 30 ks by rw [hv3]; exact Blk.stored AA3.out (.cells (agi Z8) 30))
       have G3v3 := hid (show IB v3 u3.heap.size 30 yb by rw [hv3]; exact IB.stored u3 30 Z8 yb)
       have G1v3 := hid (show IB v3 u1.heap.size 30 ya by rw [hv3]; exact Blk.stored G1u3.out (.cells (agi Z8) 30))
       have G2v3 := hid (show IB v3 u2.heap.size 30 ya by rw [hv3]; exact Blk.stored G2u3.out (.cells (agi Z8) 30))
       clear hv3)
    | (refine wpList_loadI rfl 30 (.tmp 1) rfl _ 30 ks 8 _ rfl A3.out Tryd.underlying30 rfl size8 HL.out ?_))
  refine (K4'.out _ B3.out).mono ?_
  rintro e u4 ⟨rfl, hB⟩
  have C4 := hid (B3.out.trans (hB.mono B3.out.size))
  have AA4 := hid (Blk.below' A3.out hB)
  have G1u4 := hid (Blk.below' G1v3.out hB)
  have G2u4 := hid (Blk.below' G2v3.out hB)
  have G3u4 := hid (Blk.below' G3v3.out hB)
  clear hB A3 B3 G1v3 G2v3 G3v3
  go_wp2_with (first
    | (refine wpList_storeI rfl 30 (.tmp 9) (.tmp 31) rfl _ 30 Z8 yb 8 rfl rfl (IB.new u4 30 Z8) size8 rfl HL2.out ?_
       obtain ⟨v4, hv4⟩ : ∃ v4, v4 = (u4.alloc (.cells #[Value.int .i64 0, Value.int .i64 0, Value.int .i64 0, Value.int .i64 0, Value.int .i64 0, Value.int .i64 0, Value.int .i64 0, Value.int .i64 0] 30)).setRow u4.heap.size (agi yb) := ⟨_, rfl⟩
       rw [← hv4]
       have B4 := hid (show Below w.heap.size w v4 by rw [hv4]; exact C4.out.trans ((below_stored u4 (.cells (agi Z8) 30) (agi yb)).mono C4.out.size))
       have A4 := hid (show IB v4 w.heap.size 30 ks by rw [hv4]; exact Blk.stored AA4.out (.cells (agi Z8) 30))
       have G4v4 := hid (show IB v4 u4.heap.size 30 yb by rw [hv4]; exact IB.stored u4 30 Z8 yb)
       have G1v4 := hid (show IB v4 u1.heap.size 30 ya by rw [hv4]; exact Blk.stored G1u4.out (.cells (agi Z8) 30))
       have G2v4 := hid (show IB v4 u2.heap.size 30 ya by rw [hv4]; exact Blk.stored G2u4.out (.cells (agi Z8) 30))
       have G3v4 := hid (show IB v4 u3.heap.size 30 yb by rw [hv4]; exact Blk.stored G3u4.out (.cells (agi Z8) 30))
       clear hv4))
  refine (K5'.out _ B4.out).mono ?_
  rintro e u5 ⟨rfl, hB⟩
  have C5 := hid (B4.out.trans (hB.mono B4.out.size))
  have AA5 := hid (Blk.below' A4.out hB)
  have G1u5 := hid (Blk.below' G1v4.out hB)
  have G2u5 := hid (Blk.below' G2v4.out hB)
  have G3u5 := hid (Blk.below' G3v4.out hB)
  have G4u5 := hid (Blk.below' G4v4.out hB)
  clear hB A4 B4 G1v4 G2v4 G3v4 G4v4
  go_wp2_with (first
    | (refine wpList_storeI rfl 30 (.tmp 11) (.tmp 36) rfl _ 30 Z8 yc 8 rfl rfl (IB.new u5 30 Z8) size8 rfl HL3.out ?_
       obtain ⟨v5, hv5⟩ : ∃ v5, v5 = (u5.alloc (.cells #[Value.int .i64 0, Value.int .i64 0, Value.int .i64 0, Value.int .i64 0, Value.int .i64 0, Value.int .i64 0, Value.int .i64 0, Value.int .i64 0] 30)).setRow u5.heap.size (agi yc) := ⟨_, rfl⟩
       rw [← hv5]
       have B5 := hid (show Below w.heap.size w v5 by rw [hv5]; exact C5.out.trans ((below_stored u5 (.cells (agi Z8) 30) (agi yc)).mono C5.out.size))
       have A5 := hid (show IB v5 w.heap.size 30 ks by rw [hv5]; exact Blk.stored AA5.out (.cells (agi Z8) 30))
       have G5v5 := hid (show IB v5 u5.heap.size 30 yc by rw [hv5]; exact IB.stored u5 30 Z8 yc)
       have G1v5 := hid (show IB v5 u1.heap.size 30 ya by rw [hv5]; exact Blk.stored G1u5.out (.cells (agi Z8) 30))
       have G2v5 := hid (show IB v5 u2.heap.size 30 ya by rw [hv5]; exact Blk.stored G2u5.out (.cells (agi Z8) 30))
       have G3v5 := hid (show IB v5 u3.heap.size 30 yb by rw [hv5]; exact Blk.stored G3u5.out (.cells (agi Z8) 30))
       have G4v5 := hid (show IB v5 u4.heap.size 30 yb by rw [hv5]; exact Blk.stored G4u5.out (.cells (agi Z8) 30))
       clear hv5
       have c63 : v5.cell? ⟨u5.heap.size, 0, none⟩ = some (.int .i64 63) := (by rw [← H63.out]; exact IB.cell G5v5.out 0 (by rw [HL3.out]; omega)))
    | (refine wpList_loadI rfl 30 (.tmp 3) rfl _ 30 ya 8 _ rfl G1v5.out Tryd.underlying30 rfl size8 HL1.out ?_)
    | (refine wpList_loadI rfl 30 (.tmp 5) rfl _ 30 ya 8 _ rfl G2v5.out Tryd.underlying30 rfl size8 HL1.out ?_)
    | (refine wpList_loadI rfl 30 (.tmp 7) rfl _ 30 yb 8 _ rfl G3v5.out Tryd.underlying30 rfl size8 HL2.out ?_)
    | (refine wpList_loadI rfl 30 (.tmp 9) rfl _ 30 yb 8 _ rfl G4v5.out Tryd.underlying30 rfl size8 HL2.out ?_))
  go_ret
  exact ⟨by simp, B5.out⟩
end Go.Proofs.YtnielfleokbloaaDoor
