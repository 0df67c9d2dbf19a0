/- Texts that the law rests on, laid together: QuantA, SynthW. -/
import Derived.Test.YthoiikkjjaldnaaDoorZ4a2b05
import Derived.Test.YthoiikkjjaldnaaDoorZcef1c1
import Derived.Test.YthoiikkjjaldnaaDoorZ8ebc89
import Derived.Test.YthoiikkjjaldnaaDoorZe90ea5
import Derived.Test.YthoiikkjjaldnaaDoorZ3296f7
import Derived.Test.YthoiikkjjaldnaaDoorZb6a6d3
import Derived.Laws.CopyOwn
import Derived.Deep.RegionLaw
/- The walks of the program's quant.All and Values, the reference's QuantAll and Values, and of the law QuantAlls. -/
namespace Go.Proofs.YthoiikkjjaldnaaDoor
set_option linter.unusedVariables false
set_option linter.unusedSimpArgs false
set_option maxRecDepth 100000
open Go.RowKit

/-- The first error of n numbers. -/
def aE (EF : Int → Int → Int) (ks : List Int) : Nat → Int
  | 0 => 0
  | n + 1 => if aE EF ks n = 0 then EF (n : Nat) (ks.getD n 0) else aE EF ks n
def aF (VF : Int → Int → Int) (ks : List Int) (j : Nat) : Int := VF (j : Nat) (ks.getD j 0)
def aL (VF EF : Int → Int → Int) (ks : List Int) : List Int := if aE EF ks 8 = 0 then (List.range 8).map (aF VF ks) else Z8
theorem aE_stop {EF : Int → Int → Int} {ks : List Int} {n : Nat} (h : aE EF ks n ≠ 0) : ∀ m, n ≤ m → aE EF ks m = aE EF ks n := by
  intro m hm
  induction m with
  | zero => obtain rfl : n = 0 := by omega
            rfl
  | succ m ih =>
    by_cases h2 : n = m + 1
    · rw [h2]
    · have := ih (by omega)
      rw [aE, if_neg (by rw [this]; exact h), this]
def AAns (VF EF : Int → Int → Int) (ks : List Int) (w : World) (e : Ending) (w' : World) : Prop :=
  e = .returned (.tuple #[.agg (agi (aL VF EF ks)), .int .i64 (aE EF ks 8)]) ∧ Below w.heap.size w w'

/-- The boxes: the numbers, the answer's, the ones that are made. -/
structure Sq (w wr : World) (ks ys : List Int) : Prop where
  A : IB wr w.heap.size 27 ks
  R : IB wr (w.heap.size + 1) 27 Z8
  O : IB wr (w.heap.size + 2) 27 ys
  B : Below w.heap.size w wr
theorem Sq.start (w : World) (ks : List Int) : Sq w (((w.alloc (.cells (agi ks) 27)).alloc (.cells (agi Z8) 27)).alloc (.cells (agi Z8) 27)) ks Z8 := by
  have h1 := IB.new w 27 ks
  have h2 := IB.new (w.alloc (.cells (agi ks) 27)) 27 Z8
  have h3 := IB.new ((w.alloc (.cells (agi ks) 27)).alloc (.cells (agi Z8) 27)) 27 Z8
  simp only [World.size_alloc] at h2 h3
  exact ⟨Blk.alloc (Blk.alloc h1 _) _, Blk.alloc h2 _, h3, ((((Below.refl _ _).alloc (Nat.le_refl _) _).alloc (by simp) _).alloc (by simp; omega) _)⟩
theorem Sq.lt {w wr : World} {ks ys : List Int} (h : Sq w wr ks ys) : w.heap.size + 3 ≤ wr.heap.size := Blk.lt h.O
theorem Sq.below {w wr wr' : World} {ks ys : List Int} (h : Sq w wr ks ys) (hb : Below wr.heap.size wr wr') : Sq w wr' ks ys :=
  ⟨Blk.below' h.A hb, Blk.below' h.R hb, Blk.below' h.O hb, h.B.trans (hb.mono (by have := h.lt; omega))⟩
theorem Sq.set_ {w wr : World} {ks ys : List Int} (h : Sq w wr ks ys) (i : Nat) (x : Int) : Sq w (wr.setCell ⟨w.heap.size + 2, i, none⟩ (.int .i64 x)) ks (ys.set i x) :=
  ⟨Blk.far h.A (p := ⟨w.heap.size + 2, i, none⟩) (show w.heap.size ≠ w.heap.size + 2 by omega) _, Blk.far h.R (p := ⟨w.heap.size + 2, i, none⟩) (show w.heap.size + 1 ≠ w.heap.size + 2 by omega) _, IB.set_ h.O i x,
    h.B.setCell (p := ⟨w.heap.size + 2, i, none⟩) (show w.heap.size ≤ w.heap.size + 2 by omega) _⟩
theorem upto_set {f : Nat → Int} {ys : List Int} {n : Nat} (hl : ys.length = 8) (h : ∀ j, j < n → ys.getD j 0 = f j) (hn : n < 8) : (ys.set n (f n)).length = 8 ∧ ∀ j, j < n + 1 → (ys.set n (f n)).getD j 0 = f j := by
  refine ⟨by simpa using hl, fun j hj => ?_⟩
  by_cases e : n = j
  · subst e; exact get_set_same _ _ _ (by omega)
  · rw [get_set_other _ _ e]; exact h j (by omega)
theorem upto_all {f : Nat → Int} {ys : List Int} (hl : ys.length = 8) (h : ∀ j, j < 8 → ys.getD j 0 = f j) : ys = (List.range 8).map f :=
  list_ext (by simpa using hl) fun k hk => by rw [hl] at hk; rw [h k hk, range_get f hk]

set_option maxHeartbeats 2000000 in
theorem quantAll_any (ks : List Int) (w : World) (hl : ks.length = 8) (T : TabA w 1 widthL) :
    Calls Tryd.prog 27 #[.agg (agi ks)] w (AAns qV qErr ks w) := by
  have hR := results_row2 (fn := Tryd.f27) (p := 2) (q := 3) (ty := 27) rfl
  have S0 := Sq.start w ks
  rw [z8_eq] at S0
  have S0 := hid S0
  have KC := hid (fun i k w' (h : Below w.heap.size w w') => quantOne_any i k w' (T.below' h (Nat.le_refl _)))
  have HIX := hid (fun (k : Nat) (hk : k < 8) (w : World) => run_index_agi Tryd.underlying27 ks hl k hk w)
  have HL := hid hl
  clear T hl
  go_enter Tryd.func27, Tryd.ntmps27
  go_wp2_with (refine wpList_loadI rfl 27 (.tmp 1) rfl _ 27 ks 8 _ rfl S0.out.A Tryd.underlying27 rfl size8 HL.out ?_)
  go_loopw [10] (fun iv wr => ∃ (n : Nat) (ys : List Int), n ≤ 8 ∧ iv = .int .i64 n ∧ Hid (aE qErr ks n = 0) ∧ Hid (ys.length = 8 ∧ ∀ j, j < n → ys.getD j 0 = aF qV ks j) ∧ Hid (Sq w wr ks ys)) (fun iv _ => 8 - (intOf iv).toNat)
  case atStart => exact ⟨0, Z8, by omega, rfl, hid rfl, hid ⟨rfl, fun j h => by omega⟩, S0⟩
  case round =>
    clear S0
    obtain ⟨n, ys, hn, rfl, HE, HY, HS⟩ := hrel
    by_cases hlt : n < 8
    · have K := KC.out (n : Nat) (ks.getD n 0) wr HS.out.B
      unfold OneAns at K
      have hix := HIX.out n hlt
      have ca := IB.cell HS.out.A n (by rw [HL.out]; exact hlt)
      have HV := hid (show aF qV ks n = qV (n : Nat) (ks.getD n 0) from rfl)
      have HE1 := hid (show aE qErr ks (n + 1) = qErr (n : Nat) (ks.getD n 0) by rw [aE, if_pos HE.out])
      generalize qV (n : Nat) (ks.getD n 0) = v at *
      generalize qErr (n : Nat) (ks.getD n 0) = er at *
      generalize ks.getD n 0 = x at *
      have K' := hid K
      clear K
      by_cases h0 : er = 0
      · subst h0
        go_wp2_with fail
        refine K'.out.mono ?_
        rintro e w1 ⟨rfl, rfl⟩
        have HS2 := HS
        have co := IB.cell HS2.out.O n (by rw [HY.out.1]; exact hlt)
        have fo := Blk.frozen HS2.out.O n
        have HY2 := hid (upto_set HY.out.1 HY.out.2 hlt)
        rw [HV.out] at HY2
        have HS3 := hid (HS2.out.set_ n v)
        clear ca hix
        go_wp2
        go_roundw
        case rel => exact ⟨n + 1, _, by omega, by go_num, HE1, HY2, HS3⟩
        case measure => simp [intOf] <;> omega
      · have e1 : (er != 0) = true := by simpa using h0
        have e2 : (er == 0) = false := by simpa using h0
        have HF := hid (show aE qErr ks 8 = er by rw [← HE1.out]; exact aE_stop (by rw [HE1.out]; exact h0) 8 (by omega))
        have HF2 := hid (show aL qV qErr ks = Z8 by unfold aL; rw [HF.out, if_neg h0])
        clear h0
        go_wp2_with fail
        refine K'.out.mono ?_
        rintro e w1 ⟨rfl, rfl⟩
        have HS2 := HS
        clear ca hix
        go_wp2_with (refine wpList_storeI rfl 27 (.tmp 2) (.tmp 22) rfl _ 27 Z8 Z8 8 rfl rfl HS2.out.R size8 rfl rfl ?_)
        refine bodyPost_ret (v := _) (hR _ _ _ 27 Z8 _ 8 rfl (IB.setRow HS2.out.R Z8) Tryd.underlying27 rfl size8 rfl) rfl ?_
        exact ⟨by rw [HF.out, HF2.out]; rfl, below_setRow HS2.out.B (by omega) _⟩
    · obtain rfl : n = 8 := by omega
      have HF2 := hid (show aL qV qErr ks = ys by unfold aL; rw [if_pos HE.out]; exact (upto_all HY.out.1 HY.out.2).symm)
      have HYL := hid HY.out.1
      go_wp2_with (first
        | (refine wpList_loadI rfl 27 (.tmp 4) rfl _ 27 ys 8 _ rfl HS.out.O Tryd.underlying27 rfl size8 HYL.out ?_)
        | (refine wpList_storeI rfl 27 (.tmp 2) (.tmp 28) rfl _ 27 Z8 ys 8 rfl rfl HS.out.R size8 rfl HYL.out ?_))
      refine bodyPost_ret (v := _) (hR _ _ _ 27 ys _ 8 rfl (IB.setRow HS.out.R ys) Tryd.underlying27 rfl size8 HYL.out) rfl ?_
      exact ⟨by rw [HE.out, HF2.out]; rfl, below_setRow HS.out.B (by omega) _⟩

set_option maxHeartbeats 2000000 in
theorem quantValues_any (ks : List Int) (w : World) (hl : ks.length = 8) (T : TabA w 1 widthL) :
    Calls Tryd.prog 29 #[.agg (agi ks)] w (AAns lvV lvErr ks w) := by
  have hR := results_row2 (fn := Tryd.f29) (p := 2) (q := 3) (ty := 27) rfl
  have S0 := Sq.start w ks
  rw [z8_eq] at S0
  have S0 := hid S0
  have KC := hid (fun i k w' (h : Below w.heap.size w w') => quantLevel_any i k w' (T.below' h (Nat.le_refl _)))
  have HIX := hid (fun (k : Nat) (hk : k < 8) (w : World) => run_index_agi Tryd.underlying27 ks hl k hk w)
  have HL := hid hl
  clear T hl
  go_enter Tryd.func29, Tryd.ntmps29
  go_wp2_with (refine wpList_loadI rfl 27 (.tmp 1) rfl _ 27 ks 8 _ rfl S0.out.A Tryd.underlying27 rfl size8 HL.out ?_)
  go_loopw [10] (fun iv wr => ∃ (n : Nat) (ys : List Int), n ≤ 8 ∧ iv = .int .i64 n ∧ Hid (aE lvErr ks n = 0) ∧ Hid (ys.length = 8 ∧ ∀ j, j < n → ys.getD j 0 = aF lvV ks j) ∧ Hid (Sq w wr ks ys)) (fun iv _ => 8 - (intOf iv).toNat)
  case atStart => exact ⟨0, Z8, by omega, rfl, hid rfl, hid ⟨rfl, fun j h => by omega⟩, S0⟩
  case round =>
    clear S0
    obtain ⟨n, ys, hn, rfl, HE, HY, HS⟩ := hrel
    by_cases hlt : n < 8
    · have K := KC.out (n : Nat) (ks.getD n 0) wr HS.out.B
      unfold LvAns at K
      have hix := HIX.out n hlt
      have ca := IB.cell HS.out.A n (by rw [HL.out]; exact hlt)
      have HV := hid (show aF lvV ks n = lvV (n : Nat) (ks.getD n 0) from rfl)
      have HE1 := hid (show aE lvErr ks (n + 1) = lvErr (n : Nat) (ks.getD n 0) by rw [aE, if_pos HE.out])
      generalize lvV (n : Nat) (ks.getD n 0) = v at *
      generalize lvErr (n : Nat) (ks.getD n 0) = er at *
      generalize ks.getD n 0 = x at *
      have K' := hid K
      clear K
      by_cases h0 : er = 0
      · subst h0
        go_wp2_with fail
        refine K'.out.mono ?_
        rintro e w1 ⟨rfl, rfl⟩
        have HS2 := HS
        have co := IB.cell HS2.out.O n (by rw [HY.out.1]; exact hlt)
        have fo := Blk.frozen HS2.out.O n
        have HY2 := hid (upto_set HY.out.1 HY.out.2 hlt)
        rw [HV.out] at HY2
        have HS3 := hid (HS2.out.set_ n v)
        clear ca hix
        go_wp2
        go_roundw
        case rel => exact ⟨n + 1, _, by omega, by go_num, HE1, HY2, HS3⟩
        case measure => simp [intOf] <;> omega
      · have e1 : (er != 0) = true := by simpa using h0
        have e2 : (er == 0) = false := by simpa using h0
        have HF := hid (show aE lvErr ks 8 = er by rw [← HE1.out]; exact aE_stop (by rw [HE1.out]; exact h0) 8 (by omega))
        have HF2 := hid (show aL lvV lvErr ks = Z8 by unfold aL; rw [HF.out, if_neg h0])
        clear h0
        go_wp2_with fail
        refine K'.out.mono ?_
        rintro e w1 ⟨rfl, rfl⟩
        have HS2 := HS
        clear ca hix
        go_wp2_with (refine wpList_storeI rfl 27 (.tmp 2) (.tmp 22) rfl _ 27 Z8 Z8 8 rfl rfl HS2.out.R size8 rfl rfl ?_)
        refine bodyPost_ret (v := _) (hR _ _ _ 27 Z8 _ 8 rfl (IB.setRow HS2.out.R Z8) Tryd.underlying27 rfl size8 rfl) rfl ?_
        exact ⟨by rw [HF.out, HF2.out]; rfl, below_setRow HS2.out.B (by omega) _⟩
    · obtain rfl : n = 8 := by omega
      have HF2 := hid (show aL lvV lvErr ks = ys by unfold aL; rw [if_pos HE.out]; exact (upto_all HY.out.1 HY.out.2).symm)
      have HYL := hid HY.out.1
      go_wp2_with (first
        | (refine wpList_loadI rfl 27 (.tmp 4) rfl _ 27 ys 8 _ rfl HS.out.O Tryd.underlying27 rfl size8 HYL.out ?_)
        | (refine wpList_storeI rfl 27 (.tmp 2) (.tmp 28) rfl _ 27 Z8 ys 8 rfl rfl HS.out.R size8 rfl HYL.out ?_))
      refine bodyPost_ret (v := _) (hR _ _ _ 27 ys _ 8 rfl (IB.setRow HS.out.R ys) Tryd.underlying27 rfl size8 HYL.out) rfl ?_
      exact ⟨by rw [HE.out, HF2.out]; rfl, below_setRow HS.out.B (by omega) _⟩



end Go.Proofs.YthoiikkjjaldnaaDoor

/- The walk of package synth's good, guess and push. -/
namespace Go.Proofs.YthoiikkjjaldnaaDoor
set_option linter.unusedVariables false
set_option linter.unusedSimpArgs false
set_option maxRecDepth 100000
open Go.RowKit

set_option maxHeartbeats 4000000 in
theorem synthgood_any (a p l : List Int) (A : Option Addr) (c n B : Nat) (w : World) (ha : a.length = 9) (hp : p.length = 8) (hr : Rs w w.heap.size A l) (hn : l.length = n) (hl : n ≤ 17592186044416) :
    Calls Tryd.prog 77 #[.agg (agi a), .agg (agi p), .slice A n c] w (AnsB w (goodF a p l)) := by
  have hI := hid (IB.new w 69 a)
  have hJ := IB.new (w.alloc (.cells (agi a) 69)) 27 p
  simp only [World.size_alloc] at hJ
  have hJ := hid hJ
  have hI := hid (Blk.alloc hI.out (.cells (agi p) 27))
  have HA := hid ha
  have HP := hid hp
  have HN := hid hn
  have HR := hid (hr.below (((Below.refl _ w).alloc (Nat.le_refl _) (.cells (agi a) 69)).alloc (by simp) (.cells (agi p) 27)))
  have HB := hid (((Below.refl _ w).alloc (Nat.le_refl _) (.cells (agi a) 69)).alloc (by simp) (.cells (agi p) 27))
  have hix := fun (k : Nat) (hk : k < 9) (w : World) => run_index_agi Tryd.underlying69 a ha k hk w
  have HIX := hid hix
  have hjx := fun (k : Nat) (hk : k < 8) (w : World) => run_index_agi Tryd.underlying27 p hp k hk w
  have HJX := hid hjx
  clear ha hp hn hr hix hjx
  have c0 := IB.cell hI.out 0 (by rw [HA.out]; omega)
  obtain ⟨a0, ha0⟩ : ∃ a0, a0 = a.getD 0 0 := ⟨_, rfl⟩
  rw [← ha0] at c0
  have HA0 := hid ha0
  have C0 := hid c0
  clear ha0 c0
  go_enter Tryd.func77, Tryd.ntmps77
  go_wp2_with (refine wpList_loadI rfl 69 (.tmp 3) rfl _ 69 a 9 _ rfl hI.out Tryd.underlying69 rfl size9 HA.out ?_)
  go_loop [14] (fun iv => ∃ k : Nat, k ≤ 9 ∧ iv = .int .i64 k ∧ Hid (allTo okP1 a k)) (fun iv => 9 - (intOf iv).toNat)
  case atStart => exact ⟨0, by omega, rfl, hid allTo.zero⟩
  case round =>
    obtain ⟨k, hk, rfl, HY⟩ := hrel
    by_cases hlt : k < 9
    · have hix := HIX.out k hlt
      obtain ⟨x, hx⟩ : ∃ x, x = a.getD k 0 := ⟨_, rfl⟩
      rw [← hx] at hix
      have HX := hid hx
      clear hx
      by_cases b1 : x < -1048576
      · have HF := hid (show okP a = false from all_no (i := k) (by rw [HA.out]; exact hlt) (okP1_no (by rw [← HX.out]; exact .inl b1)))
        go_wp2
        go_ret
        exact ⟨by unfold goodF; rw [HF.out]; rfl, HB.out⟩
      by_cases b2 : 1048576 < x
      · have HF := hid (show okP a = false from all_no (i := k) (by rw [HA.out]; exact hlt) (okP1_no (by rw [← HX.out]; exact .inr b2)))
        go_wp2
        go_ret
        exact ⟨by unfold goodF; rw [HF.out]; rfl, HB.out⟩
      have HN2 := hid (HY.out.succ (by rw [← HX.out]; exact okP1_yes (by omega) (by omega)))
      go_wp2
      go_round
      case rel => exact ⟨k + 1, by omega, by go_num, HN2⟩
      case measure => simp [intOf] <;> omega
    · obtain rfl : k = 9 := by omega
      have HF9 := hid (show okP a = true from HY.out.all (by rw [HA.out]; exact Nat.le_refl _))
      clear hlt HY
      go_wp2_with (refine wpList_loadI rfl 27 (.tmp 4) rfl _ 27 p 8 _ rfl hJ.out Tryd.underlying27 rfl size8 HP.out ?_)
      go_loop [25] (fun iv => ∃ k : Nat, k ≤ 8 ∧ iv = .int .i64 k ∧ Hid (allTo ok16 p k)) (fun iv => 8 - (intOf iv).toNat)
      case atStart => exact ⟨0, by omega, rfl, hid allTo.zero⟩
      case round =>
        obtain ⟨k, hk, rfl, HY⟩ := hrel
        by_cases hlt : k < 8
        · have hix := HJX.out k hlt
          obtain ⟨x, hx⟩ : ∃ x, x = p.getD k 0 := ⟨_, rfl⟩
          rw [← hx] at hix
          have HX := hid hx
          clear hx
          by_cases hbad : x < -32768 ∨ 32767 < x
          · have HF := hid (show all16 p = false from all_no (i := k) (by rw [HP.out]; exact hlt) (ok16_no (by rw [← HX.out]; exact hbad)))
            have e1 : (x == s16 x) = false := by rw [beq_eq_false_iff_ne]; exact fun h => s16_ne hbad h.symm
            have e2 : (x != s16 x) = true := by rw [bne_iff_ne]; exact fun h => s16_ne hbad h.symm
            clear hbad
            go_wp2_with (go_at_call 78; refine (synthsat_any _ _).mono ?_; rintro e w' ⟨rfl, rfl⟩)
            go_ret
            exact ⟨by unfold goodF; rw [HF.out]; simp, HB.out⟩
          · have HN2 := hid (HY.out.succ (by rw [← HX.out]; exact ok16_yes (by omega) (by omega)))
            have e0 := s16_id (x := x) (by omega) (by omega)
            clear hbad
            go_wp2_with (go_at_call 78; refine (synthsat_any _ _).mono ?_; rintro e w' ⟨rfl, rfl⟩)
            go_round
            case rel => exact ⟨k + 1, by omega, by go_num, HN2⟩
            case measure => simp [intOf] <;> omega
        · obtain rfl : k = 8 := by omega
          have HF8 := hid (show all16 p = true from HY.out.all (by rw [HP.out]; exact Nat.le_refl _))
          clear hlt HY
          go_wp2
          go_loop [35] (fun iv => ∃ k : Nat, k ≤ n ∧ iv = .int .i64 k ∧ Hid (allTo ok16 l k)) (fun iv => n - (intOf iv).toNat)
          case atStart => exact ⟨0, by omega, rfl, hid allTo.zero⟩
          case round =>
            obtain ⟨k, hk, rfl, HY⟩ := hrel
            by_cases hlt : k < n
            · obtain ⟨ad, rfl, _, c1⟩ := HR.out.at_ (k := k) (by rw [HN.out]; exact hlt)
              obtain ⟨x, hx⟩ : ∃ x, x = l.getD k 0 := ⟨_, rfl⟩
              rw [← hx] at c1
              have HX := hid hx
              clear hx
              by_cases hbad : x < -32768 ∨ 32767 < x
              · have HF := hid (show all16 l = false from all_no (i := k) (by rw [HN.out]; exact hlt) (ok16_no (by rw [← HX.out]; exact hbad)))
                have e1 : (x == s16 x) = false := by rw [beq_eq_false_iff_ne]; exact fun h => s16_ne hbad h.symm
                have e2 : (x != s16 x) = true := by rw [bne_iff_ne]; exact fun h => s16_ne hbad h.symm
                clear hbad
                go_wp2_with (go_at_call 78; refine (synthsat_any _ _).mono ?_; rintro e w' ⟨rfl, rfl⟩)
                go_ret
                exact ⟨by unfold goodF; rw [HF.out]; simp, HB.out⟩
              · have HN2 := hid (HY.out.succ (by rw [← HX.out]; exact ok16_yes (by omega) (by omega)))
                have e0 := s16_id (x := x) (by omega) (by omega)
                clear hbad
                go_wp2_with (go_at_call 78; refine (synthsat_any _ _).mono ?_; rintro e w' ⟨rfl, rfl⟩)
                go_round
                case rel => exact ⟨k + 1, by omega, by go_num, HN2⟩
                case measure => simp [intOf] <;> omega
            · have HF := hid (show all16 l = true from HY.out.all (by rw [HN.out]; omega))
              have c0 := C0.out
              go_wp2
              go_ret
              exact ⟨by unfold goodF; rw [HF9.out, HF8.out, HF.out, ← HA0.out]; simp only [Bool.true_and, Bool.and_true]; rfl, HB.out⟩

set_option maxHeartbeats 2000000 in
theorem synthguess_any (a p : List Int) (w : World) (ha : a.length = 9) (hp : p.length = 8) (oa : okP a = true) (op : all16 p = true) :
    Calls Tryd.prog 79 #[.agg (agi a), .agg (agi p)] w fun e w' => e = .returned (.int .i64 (guessL a p)) ∧ Below w.heap.size w w' := by
  have hI := hid (IB.new w 69 a)
  have hJ := IB.new (w.alloc (.cells (agi a) 69)) 27 p
  simp only [World.size_alloc] at hJ
  have hJ := hid hJ
  have hI := hid (Blk.alloc hI.out (.cells (agi p) 27))
  have HA := hid ha
  have HP := hid hp
  have HB := hid (((Below.refl _ w).alloc (Nat.le_refl _) (.cells (agi a) 69)).alloc (by simp) (.cells (agi p) 27))
  have hjx := fun (k : Nat) (hk : k < 8) (w : World) => run_index_agi Tryd.underlying27 p hp k hk w
  have HJX := hid hjx
  have OA := hid oa
  have OP := hid op
  clear ha hp hjx oa op
  go_enter Tryd.func79, Tryd.ntmps79
  go_wp2_with (refine wpList_loadI rfl 27 (.tmp 3) rfl _ 27 p 8 _ rfl hJ.out Tryd.underlying27 rfl size8 HP.out ?_)
  go_loop [5, 9] (fun sv iv => ∃ (k : Nat) (s : Int), k ≤ 8 ∧ iv = .int .i64 k ∧ sv = .int .i64 s ∧ Hid (s = 2048 + sumN (gterm a p) k)) (fun _ iv => 8 - (intOf iv).toNat)
  case atStart => exact ⟨0, 2048, by omega, rfl, rfl, hid rfl⟩
  case round =>
    obtain ⟨k, s, hk, rfl, rfl, HS⟩ := hrel
    by_cases hlt : k < 8
    · have hjx := HJX.out k hlt
      have ci := IB.cell hI.out (k + 1) (by rw [HA.out]; omega)
      have tb := gterm_bound OA.out OP.out k
      have sb := gsum_bound OA.out OP.out k
      have HT := hid (show 2048 + sumN (gterm a p) (k + 1) = s + gterm a p k by rw [HS.out]; simp only [sumN]; omega)
      have hs := HS.out
      have s1 : -300000000000 ≤ s := by omega
      have s2 : s ≤ 300000000000 := by omega
      clear hs sb
      unfold gterm at tb HT
      generalize a.getD (k + 1) 0 = x at *
      generalize p.getD k 0 = y at *
      obtain ⟨t1, t2⟩ := tb
      have HS2 := hid (show s + x * y = 2048 + sumN (fun i => a.getD (i + 1) 0 * p.getD i 0) (k + 1) from HT.out.symm)
      clear HT HS
      go_wp2
      go_round
      case rel => exact ⟨k + 1, _, by omega, by go_num, rfl, HS2⟩
      case measure => simp [intOf] <;> omega
    · obtain rfl : k = 8 := by omega
      have HF := hid (show s / 4096 = guessL a p by unfold guessL; rw [HS.out])
      go_wp2
      go_ret
      exact ⟨by rw [← HF.out]; rfl, HB.out⟩
end Go.Proofs.YthoiikkjjaldnaaDoor
