/- Texts that the law rests on, laid together: KeepW, KeepR, GoodW, GoodR, SteadyW, PkB. -/
import Derived.Test.YthoiikkjjaldnaaDoorZ7f3e4a
import Derived.Test.YthoiikkjjaldnaaDoorZ694481
import Derived.Test.YthoiikkjjaldnaaDoorZaa54cf
import Derived.Test.YthoiikkjjaldnaaDoorZ6b4648
import Derived.Test.YthoiikkjjaldnaaDoorZcef1c1
import Derived.Test.YthoiikkjjaldnaaDoorRows
import Derived.WalkKit
/- Package conceal's Keep. -/
namespace Go.Proofs.YthoiikkjjaldnaaDoor
set_option linter.unusedVariables false
set_option linter.unusedSimpArgs false
set_option maxRecDepth 100000
open Go.RowKit

/-! Plain facts. -/
def keepL (h x : List Int) : List Int := h.drop 40 ++ x.map s16
def keepA (h x : List Int) (n : Nat) : List Int := if n = 40 then keepL h x else List.replicate 80 0
def keepE (n : Nat) : Int := if n = 40 then 0 else 1
theorem keepL_len {h x : List Int} (hh : h.length = 80) (hx : x.length = 40) : (keepL h x).length = 80 := by unfold keepL; simp [hh, hx]
theorem keepL_lo {h x : List Int} (hh : h.length = 80) (j : Nat) (hj : j < 40) : (keepL h x).getD j 0 = h.getD (40 + j) 0 := by
  unfold keepL
  simp [List.getD_eq_getElem?_getD, List.getElem?_append_left (show j < (h.drop 40).length by simp; omega)]
theorem keepL_hi {h x : List Int} (hh : h.length = 80) (hx : x.length = 40) (j : Nat) (hj : j < 40) : (keepL h x).getD (40 + j) 0 = s16 (x.getD j 0) := by
  unfold keepL
  have hl : (h.drop 40).length = 40 := by simp [hh]
  rw [List.getD_eq_getElem?_getD, List.getElem?_append_right (by omega), hl, Nat.add_sub_cancel_left]
  simp [List.getD_eq_getElem?_getD, List.getElem?_eq_getElem (show j < x.length by omega)]
theorem keep_end {h x ys : List Int} (hh : h.length = 80) (hx : x.length = 40) (h1 : ys.length = 80) (h2 : ∀ j, j < 40 → ys.getD j 0 = h.getD (40 + j) 0) (h3 : ∀ j, j < 40 → ys.getD (40 + j) 0 = s16 (x.getD j 0)) : ys = keepL h x := by
  refine list_ext (by rw [h1, keepL_len hh hx]) (fun k hk => ?_)
  by_cases hlt : k < 40
  · rw [h2 k hlt, keepL_lo hh k hlt]
  · obtain ⟨j, rfl⟩ : ∃ j, k = 40 + j := ⟨k - 40, by omega⟩
    rw [h3 j (by omega), keepL_hi hh hx j (by omega)]
def Keeps (w : World) (h x : List Int) (n : Nat) (e : Ending) (w' : World) : Prop := e = .returned (.tuple #[.agg (agi (keepA h x n)), .int .i64 (keepE n)]) ∧ Below w.heap.size w w'
def Z80 : List Int := List.replicate 80 0
theorem z80_ag : Tryd.zeroCells28 = agi Z80 := by kernel_rfl
theorem size80k : (Tryd.prog.info? 28).map (·.size) = some 80 := by kernel_rfl

/-- The two boxes: the samples that are kept, the answer's. -/
structure Kx (w wr : World) (ys : List Int) : Prop where
  A : IB wr w.heap.size 28 ys
  R : IB wr (w.heap.size + 1) 28 Z80
  bel : Below w.heap.size w wr
theorem Kx.start (w : World) (h : List Int) : Kx w ((w.alloc (.cells (agi h) 28)).alloc (.cells Tryd.zeroCells28 28)) h := by
  have h1 := IB.new w 28 h
  have h2 := IB.new (w.alloc (.cells (agi h) 28)) 28 Z80
  simp only [World.size_alloc] at h2
  rw [z80_ag]
  exact ⟨Blk.alloc h1 _, h2, ((Below.refl _ _).alloc (Nat.le_refl _) _).alloc (by simp) _⟩
theorem Kx.set_ {w wr : World} {ys : List Int} (s : Kx w wr ys) (k : Nat) (x : Int) : Kx w (wr.setCell ⟨w.heap.size, k, none⟩ (.int .i64 x)) (ys.set k x) :=
  ⟨IB.set_ s.A k x, Blk.far s.R (by simp) _, s.bel.setCell (by simp) _⟩
theorem Kx.drew {w wr : World} {ys : List Int} (s : Kx w wr ys) : Kx w wr.drew ys := ⟨s.A, s.R, s.bel.drew⟩

set_option maxHeartbeats 4000000 in
theorem keep_any (h x : List Int) (A : Option Addr) (c n : Nat) (w : World) (hh : h.length = 80) (hr : Rs w w.heap.size A x) (hn : x.length = n) (hl : n ≤ 17592186044416) :
    Calls Tryd.prog 65 #[.agg (agi h), .slice A n c] w (Keeps w h x n) := by
  have hR := results_row2 (fn := Tryd.f65) (p := 4) (q := 5) (ty := 28) rfl
  have S0 := hid (Kx.start w h)
  have HR := hid hr
  have HN := hid hn
  have HH := hid hh
  by_cases h40 : n = 40
  · subst h40
    have FA : keepA h x 40 = keepL h x := if_pos rfl
    have KL := hid (keepL_len hh hn)
    have FA := hid FA
    have D40 := hid (show (h.drop 40).length = 40 by simp [hh])
    have HZ := hid (show h.drop 40 ++ h.drop 40 = h.take 0 ++ h.drop 40 ++ h.drop (0 + (h.drop 40).length) by simp [hh])
    have HZ1 := hid (show (h.drop 40 ++ h.drop 40).length = 80 by simp [hh])
    have HZ2 := hid (fun (j : Nat) (hj : j < 40) => show (h.drop 40 ++ h.drop 40).getD j 0 = h.getD (40 + j) 0 by
      simp [List.getD_eq_getElem?_getD, List.getElem?_append_left (show j < (h.drop 40).length by simp; omega)])
    have HD := hid (fun (j : Nat) (hj : j < 40) => show (h.drop 40).getD j 0 = h.getD (40 + j) 0 by simp [List.getD_eq_getElem?_getD])
    clear hr hn hh
    go_enter Tryd.func65, Tryd.ntmps65
    go_wp2
    go_region_law (refine step_copyI rfl (.tmp 12) (.tmp 13) 36 36 rfl Tryd.underlying36 w.heap.size 0 80 80 ⟨w.heap.size, 40, none⟩ 40 40 (by simp [Act.eval, Act.put]) (by simp [Act.eval, Act.put]) 28 h (h.drop 40) (h.drop 40 ++ h.drop 40) S0.out.A (by rw [D40.out]; rfl) (fun j hj => by rw [D40.out] at hj; rw [HD.out j hj, Addr.add_mid]; exact IB.cell S0.out.A (40 + j) (by rw [HH.out]; omega)) (by rw [D40.out, HH.out]; omega) HZ.out ?_)
    generalize hw4 : World.setRow _ _ _ = w4
    have S4 : Kx w w4 (h.drop 40 ++ h.drop 40) := by
      rw [← hw4]
      exact ⟨IB.setRow (Blk.drew S0.out.A) _, Blk.rowFar (Blk.drew S0.out.R) (by omega), below_setRow (Below.drew S0.out.bel) (Nat.le_refl _) _⟩
    have S4 := hid S4
    clear hw4 S0
    obtain ⟨ys0, hys0⟩ : ∃ ys0, ys0 = h.drop 40 ++ h.drop 40 := ⟨_, rfl⟩
    rw [← hys0] at S4 HZ1 HZ2
    clear hys0
    generalize ((h.length - 40 : Nat) : Int) = u14
    simp only [Exit.then]
    go_wp2
    go_loopw [17] (fun iv wr => ∃ (k : Nat) (ys : List Int), k ≤ 40 ∧ iv = .int .i64 k ∧ Hid (ys.length = 80 ∧ (∀ j, j < 40 → ys.getD j 0 = h.getD (40 + j) 0) ∧ ∀ j, j < k → ys.getD (40 + j) 0 = s16 (x.getD j 0)) ∧ Hid (Kx w wr ys)) (fun iv _ => 40 - (intOf iv).toNat)
    case atStart => exact ⟨0, _, by omega, rfl, hid ⟨HZ1.out, HZ2.out, fun j h => by omega⟩, S4⟩
    case round =>
      clear S4
      obtain ⟨k, ys, hk, rfl, HY, HS⟩ := hrel
      by_cases hlt : k < 40
      · obtain ⟨ad, rfl, _, c1⟩ := (HR.out.below HS.out.bel).at_ (k := k) (by rw [HN.out]; exact hlt)
        obtain ⟨J, hJ⟩ : ∃ J : Nat, J = 40 + k := ⟨_, rfl⟩
        obtain ⟨v, hv⟩ : ∃ v, v = x.getD k 0 := ⟨_, rfl⟩
        rw [← hv] at c1
        have co := IB.cell HS.out.A J (by rw [HY.out.1]; omega)
        have fo := Blk.frozen HS.out.A J
        have hwJ : IntKind.i64.wrap (40 + (k : Int)) = (J : Nat) := by rw [IntKind.wrap_i64]; omega
        have hJ80 : (J : Int) < 80 := by omega
        have SX := hid (HS.out.set_ J (s16 v))
        have NEXT := hid (show (ys.set J (s16 v)).length = 80 ∧ (∀ j, j < 40 → (ys.set J (s16 v)).getD j 0 = h.getD (40 + j) 0) ∧ ∀ j, j < k + 1 → (ys.set J (s16 v)).getD (40 + j) 0 = s16 (x.getD j 0) from by
          obtain ⟨q1, q2, q3⟩ := HY.out
          refine ⟨by simpa using q1, fun j hj => ?_, fun j hj => ?_⟩
          · rw [get_set_other _ _ (by omega)]; exact q2 j hj
          · by_cases he : j = k
            · subst he
              rw [← hJ, get_set_same _ _ _ (by omega), hv]
            · rw [get_set_other _ _ (by omega)]
              exact q3 j (by omega))
        clear hJ hv
        go_wp2_with (go_at_call 41; refine (concealsat_any _ _).mono ?_; rintro e w' ⟨rfl, rfl⟩)
        go_roundw
        case rel => exact ⟨k + 1, _, by omega, by go_num, NEXT, SX⟩
        case measure => simp [intOf] <;> omega
      · obtain rfl : k = 40 := by omega
        have HF := keep_end HH.out HN.out HY.out.1 HY.out.2.1 HY.out.2.2
        subst HF
        have FIN := hid (below_setRow HS.out.bel (g := w.heap.size + 1) (by omega) (agi (keepL h x)))
        have hRow := hid (IB.setRow HS.out.R (keepL h x))
        go_wp2_with (first
          | (refine wpList_loadI rfl 28 (.tmp 2) rfl _ 28 (keepL h x) 80 _ rfl HS.out.A Tryd.underlying28 rfl size80k KL.out ?_)
          | (refine wpList_storeI rfl 28 (.tmp 4) (.tmp 28) rfl _ 28 Z80 (keepL h x) 80 rfl rfl HS.out.R size80k rfl KL.out ?_))
        refine bodyPost_ret (v := _) (hR _ _ _ 28 (keepL h x) _ 80 rfl hRow.out Tryd.underlying28 rfl size80k KL.out) rfl ?_
        exact ⟨by rw [FA.out]; rfl, FIN.out⟩
  · have FA := hid (show keepA h x n = Z80 from if_neg h40)
    have FE := hid (show keepE n = 1 from if_neg h40)
    have d1 : ((n : Int) == 40) = false := by simp; omega
    have d2 : ((n : Int) != 40) = true := by simp; omega
    clear h40
    have FIN := hid (below_setRow S0.out.bel (g := w.heap.size + 1) (by omega) (agi Z80))
    have hRow := hid (IB.setRow S0.out.R Z80)
    go_enter Tryd.func65, Tryd.ntmps65
    go_wp2_with (refine wpList_storeI rfl 28 (.tmp 4) (.tmp 11) rfl _ 28 Z80 Z80 80 rfl (congrArg Value.agg z80_ag) S0.out.R size80k rfl rfl ?_)
    refine bodyPost_ret (v := _) (hR _ _ _ 28 Z80 _ 80 rfl hRow.out Tryd.underlying28 rfl size80k rfl) rfl ?_
    exact ⟨by rw [FA.out, FE.out]; rfl, FIN.out⟩
end Go.Proofs.YthoiikkjjaldnaaDoor

/- The reference's Keep. -/
namespace Go.Proofs.YthoiikkjjaldnaaDoor
set_option linter.unusedVariables false
set_option linter.unusedSimpArgs false
set_option maxRecDepth 100000
open Go.RowKit

/-- The three boxes: the past, the answer's, what is filled. -/
structure Kr (w wr : World) (h ys : List Int) : Prop where
  A : IB wr w.heap.size 28 h
  R : IB wr (w.heap.size + 1) 28 Z80
  O : IB wr (w.heap.size + 2) 28 ys
  bel : Below w.heap.size w wr
theorem Kr.start (w : World) (h : List Int) : Kr w (((w.alloc (.cells (agi h) 28)).alloc (.cells Tryd.zeroCells28 28)).alloc (.cells Tryd.zeroCells28 28)) h Z80 := by
  have h1 := IB.new w 28 h
  have h2 := IB.new (w.alloc (.cells (agi h) 28)) 28 Z80
  have h3 := IB.new ((w.alloc (.cells (agi h) 28)).alloc (.cells (agi Z80) 28)) 28 Z80
  simp only [World.size_alloc] at h2 h3
  rw [z80_ag]
  exact ⟨Blk.alloc (Blk.alloc h1 _) _, Blk.alloc h2 _, h3, (((Below.refl _ _).alloc (Nat.le_refl _) _).alloc (by simp) _).alloc (by simp; omega) _⟩
theorem Kr.set_ {w wr : World} {h ys : List Int} (s : Kr w wr h ys) (k : Nat) (x : Int) : Kr w (wr.setCell ⟨w.heap.size + 2, k, none⟩ (.int .i64 x)) h (ys.set k x) :=
  ⟨Blk.far s.A (by simp) _, Blk.far s.R (by simp) _, IB.set_ s.O k x, s.bel.setCell (p := ⟨w.heap.size + 2, k, none⟩) (by show w.heap.size ≤ w.heap.size + 2; omega) _⟩
theorem Kr.below {w wr w' : World} {h ys : List Int} (s : Kr w wr h ys) (hb : Below wr.heap.size wr w') : Kr w w' h ys :=
  ⟨Blk.below' s.A hb, Blk.below' s.R hb, Blk.below' s.O hb, s.bel.trans (hb.mono s.bel.size)⟩
theorem Kr.lt {w wr : World} {h ys : List Int} (s : Kr w wr h ys) : w.heap.size + 3 ≤ wr.heap.size := Blk.lt s.O

end Go.Proofs.YthoiikkjjaldnaaDoor

/- Package conceal's Good and Fresh, and the reference's. -/
namespace Go.Proofs.YthoiikkjjaldnaaDoor
set_option linter.unusedVariables false
set_option linter.unusedSimpArgs false
set_option maxRecDepth 100000
open Go.RowKit

/-! Plain facts. -/
def okK (x : Int) : Bool := decide (-31000 ≤ x ∧ x ≤ 31000)
theorem okK_yes {x : Int} (h1 : -31000 ≤ x) (h2 : x ≤ 31000) : okK x = true := by unfold okK; simp; omega
theorem okK_no {x : Int} (h : x < -31000 ∨ 31000 < x) : okK x = false := by unfold okK; simp; omega
/-- The numbers at the end. -/
def tailM (m : Mm) : Prop := (20 ≤ m.la ∧ m.la ≤ 79) ∧ (0 ≤ m.se ∧ m.se < 65536) ∧ (0 ≤ m.ga ∧ m.ga ≤ 32767) ∧ (0 ≤ m.pi ∧ m.pi ≤ 18022) ∧ 0 ≤ m.er ∧ m.er ≤ 6
instance (m : Mm) : Decidable (tailM m) := by unfold tailM; infer_instance
def goodM (m : Mm) : Bool := m.r.all okK && (all16 m.p && (all16 m.e && decide (tailM m)))
theorem goodM_r {m : Mm} (h : m.r.all okK = false) : goodM m = false := by unfold goodM; rw [h]; rfl
theorem goodM_p {m : Mm} (h : all16 m.p = false) : goodM m = false := by unfold goodM; rw [h]; simp
theorem goodM_e {m : Mm} (h : all16 m.e = false) : goodM m = false := by unfold goodM; rw [h]; simp
theorem goodM_t {m : Mm} (h : ¬ tailM m) : goodM m = false := by unfold goodM; simp [h]
theorem goodM_yes {m : Mm} (h1 : m.r.all okK = true) (h2 : all16 m.p = true) (h3 : all16 m.e = true) (h4 : tailM m) : goodM m = true := by unfold goodM; simp [h1, h2, h3, h4]
theorem goodM_of {m : Mm} (h : goodM m = true) : m.r.all okK = true ∧ all16 m.p = true ∧ all16 m.e = true ∧ tailM m := by
  unfold goodM at h
  simpa using h

theorem size80' : (Tryd.prog.info? 28).map (·.size) = some 80 := by kernel_rfl
theorem size8' : (Tryd.prog.info? 27).map (·.size) = some 8 := by kernel_rfl

set_option maxHeartbeats 4000000 in
theorem good_any (m : Mm) (k : m.ok) (w : World) : Calls Tryd.prog 23 #[.agg m.ag] w (AnsB' w (goodM m)) := by
  have I0 := hid (MB.new w m)
  have HB := hid ((Below.refl _ w).alloc (Nat.le_refl _) (.cells m.ag 30))
  obtain ⟨W, hW⟩ : ∃ W, W = w.alloc (.cells m.ag 30) := ⟨_, rfl⟩
  rw [← hW] at I0 HB
  have HW := hid hW
  clear hW
  have K := hid k
  have HI8 := hid (fun (xs : List Int) (hx : xs.length = 8) (j : Nat) (hj : j < 8) (w : World) => show (Instr.index 27 (.agg (ints xs).toArray) (.int .i64 (j : Nat))).run Tryd.prog w = .ok (.int .i64 (xs.getD j 0)) w from run_index_agi Tryd.underlying27 xs hx j hj w)
  have HI80 := hid (fun (xs : List Int) (hx : xs.length = 80) (j : Nat) (hj : j < 80) (w : World) => show (Instr.index 28 (.agg (ints xs).toArray) (.int .i64 (j : Nat))).run Tryd.prog w = .ok (.int .i64 (xs.getD j 0)) w from run_index_agi Tryd.underlying28 xs hx j hj w)
  clear k
  go_enter Tryd.func23, Tryd.ntmps23
  go_wp2_with (first
    | (rw [← HW.out])
    | (refine wpList_load_mid rfl 27 (.tmp 10) rfl _ _ rfl (ints m.r) _ (I0.out.R K.out) Tryd.underlying27 rfl (by rw [ints_len, K.out.r]; exact size8') ?_))
  go_loop [12] (fun iv => ∃ k : Nat, k ≤ 8 ∧ iv = .int .i64 k ∧ Hid (allTo okK m.r k)) (fun iv => 8 - (intOf iv).toNat)
  case atStart => exact ⟨0, by omega, rfl, hid allTo.zero⟩
  case round =>
    obtain ⟨k, hk, rfl, HY⟩ := hrel
    by_cases hlt : k < 8
    · have hix := HI8.out m.r K.out.r k hlt
      obtain ⟨x, hx⟩ : ∃ x, x = m.r.getD k 0 := ⟨_, rfl⟩
      rw [← hx] at hix
      have HX := hid hx
      clear hx
      by_cases b1 : x < -31000
      · have HF := hid (show goodM m = false from goodM_r (all_no (i := k) (by rw [K.out.r]; exact hlt) (okK_no (by rw [← HX.out]; exact .inl b1))))
        go_wp2
        go_ret
        exact ⟨by rw [HF.out]; rfl, HB.out⟩
      by_cases b2 : 31000 < x
      · have HF := hid (show goodM m = false from goodM_r (all_no (i := k) (by rw [K.out.r]; exact hlt) (okK_no (by rw [← HX.out]; exact .inr b2))))
        go_wp2
        go_ret
        exact ⟨by rw [HF.out]; rfl, HB.out⟩
      have HN := hid (HY.out.succ (by rw [← HX.out]; exact okK_yes (by omega) (by omega)))
      go_wp2
      go_round
      case rel => exact ⟨k + 1, by omega, by go_num, HN⟩
      case measure => simp [intOf] <;> omega
    · obtain rfl : k = 8 := by omega
      have HR := hid (show m.r.all okK = true from HY.out.all (by rw [K.out.r]; exact Nat.le_refl _))
      clear HY hlt hk
      go_wp2_with (refine wpList_load_mid rfl 27 (.tmp 22) rfl _ _ rfl (ints m.p) _ (I0.out.P K.out) Tryd.underlying27 rfl (by rw [ints_len, K.out.p]; exact size8') ?_)
      go_loop [24] (fun iv => ∃ k : Nat, k ≤ 8 ∧ iv = .int .i64 k ∧ Hid (allTo ok16 m.p k)) (fun iv => 8 - (intOf iv).toNat)
      case atStart => exact ⟨0, by omega, rfl, hid allTo.zero⟩
      case round =>
        obtain ⟨k, hk, rfl, HY⟩ := hrel
        by_cases hlt : k < 8
        · have hix := HI8.out m.p K.out.p k hlt
          obtain ⟨x, hx⟩ : ∃ x, x = m.p.getD k 0 := ⟨_, rfl⟩
          rw [← hx] at hix
          have HX := hid hx
          clear hx
          by_cases hbad : x < -32768 ∨ 32767 < x
          · have HF := hid (show goodM m = false from goodM_p (all_no (i := k) (by rw [K.out.p]; exact hlt) (ok16_no (by rw [← HX.out]; exact hbad))))
            have e1 : (x == s16 x) = false := by rw [beq_eq_false_iff_ne]; exact fun h => s16_ne hbad h.symm
            have e2 : (x != s16 x) = true := by rw [bne_iff_ne]; exact fun h => s16_ne hbad h.symm
            clear hbad
            go_wp2_with (go_at_call 41; refine (concealsat_any _ _).mono ?_; rintro e w' ⟨rfl, rfl⟩)
            go_ret
            exact ⟨by rw [HF.out]; rfl, HB.out⟩
          · have HN2 := hid (HY.out.succ (by rw [← HX.out]; exact ok16_yes (by omega) (by omega)))
            have e0 := s16_id (x := x) (by omega) (by omega)
            clear hbad
            go_wp2_with (go_at_call 41; refine (concealsat_any _ _).mono ?_; rintro e w' ⟨rfl, rfl⟩)
            go_round
            case rel => exact ⟨k + 1, by omega, by go_num, HN2⟩
            case measure => simp [intOf] <;> omega
        · obtain rfl : k = 8 := by omega
          have HP := hid (show all16 m.p = true from HY.out.all (by rw [K.out.p]; exact Nat.le_refl _))
          clear HY hlt hk
          go_wp2_with (refine wpList_load_mid rfl 28 (.tmp 32) rfl _ _ rfl (ints m.e) _ (I0.out.E K.out) Tryd.underlying28 rfl (by rw [ints_len, K.out.e]; exact size80') ?_)
          go_loop [34] (fun iv => ∃ k : Nat, k ≤ 80 ∧ iv = .int .i64 k ∧ Hid (allTo ok16 m.e k)) (fun iv => 80 - (intOf iv).toNat)
          case atStart => exact ⟨0, by omega, rfl, hid allTo.zero⟩
          case round =>
            obtain ⟨k, hk, rfl, HY⟩ := hrel
            by_cases hlt : k < 80
            · have hix := HI80.out m.e K.out.e k hlt
              obtain ⟨x, hx⟩ : ∃ x, x = m.e.getD k 0 := ⟨_, rfl⟩
              rw [← hx] at hix
              have HX := hid hx
              clear hx
              by_cases hbad : x < -32768 ∨ 32767 < x
              · have HF := hid (show goodM m = false from goodM_e (all_no (i := k) (by rw [K.out.e]; exact hlt) (ok16_no (by rw [← HX.out]; exact hbad))))
                have e1 : (x == s16 x) = false := by rw [beq_eq_false_iff_ne]; exact fun h => s16_ne hbad h.symm
                have e2 : (x != s16 x) = true := by rw [bne_iff_ne]; exact fun h => s16_ne hbad h.symm
                clear hbad
                go_wp2_with (go_at_call 41; refine (concealsat_any _ _).mono ?_; rintro e w' ⟨rfl, rfl⟩)
                go_ret
                exact ⟨by rw [HF.out]; rfl, HB.out⟩
              · have HN2 := hid (HY.out.succ (by rw [← HX.out]; exact ok16_yes (by omega) (by omega)))
                have e0 := s16_id (x := x) (by omega) (by omega)
                clear hbad
                go_wp2_with (go_at_call 41; refine (concealsat_any _ _).mono ?_; rintro e w' ⟨rfl, rfl⟩)
                go_round
                case rel => exact ⟨k + 1, by omega, by go_num, HN2⟩
                case measure => simp [intOf] <;> omega
            · obtain rfl : k = 80 := by omega
              have HE := hid (show all16 m.e = true from HY.out.all (by rw [K.out.e]; exact Nat.le_refl _))
              clear HY hlt hk
              have a1 : W.cell? ⟨w.heap.size, 98, none⟩ = some (.int .i64 m.la) := I0.out.cla K.out
              have a2 : W.cell? ⟨w.heap.size, 100, none⟩ = some (.int .i64 m.se) := I0.out.cse K.out
              have a3 : W.cell? ⟨w.heap.size, 96, none⟩ = some (.int .i64 m.ga) := I0.out.cga K.out
              have a4 : W.cell? ⟨w.heap.size, 97, none⟩ = some (.int .i64 m.pi) := I0.out.cpi K.out
              have a5 : W.cell? ⟨w.heap.size, 99, none⟩ = some (.int .i64 m.er) := I0.out.cer K.out
              by_cases b0 : m.la < 20
              · have HF := hid (show goodM m = false from goodM_t (by unfold tailM; omega))
                go_wp2
                go_ret
                exact ⟨by rw [HF.out]; rfl, HB.out⟩
              by_cases b1 : 79 < m.la
              · have HF := hid (show goodM m = false from goodM_t (by unfold tailM; omega))
                go_wp2
                go_ret
                exact ⟨by rw [HF.out]; rfl, HB.out⟩
              by_cases b2 : m.se < 0
              · have HF := hid (show goodM m = false from goodM_t (by unfold tailM; omega))
                go_wp2
                go_ret
                exact ⟨by rw [HF.out]; rfl, HB.out⟩
              by_cases b3 : 65536 ≤ m.se
              · have HF := hid (show goodM m = false from goodM_t (by unfold tailM; omega))
                go_wp2
                go_ret
                exact ⟨by rw [HF.out]; rfl, HB.out⟩
              by_cases b4 : m.ga < 0
              · have HF := hid (show goodM m = false from goodM_t (by unfold tailM; omega))
                go_wp2
                go_ret
                exact ⟨by rw [HF.out]; rfl, HB.out⟩
              by_cases b5 : 32767 < m.ga
              · have HF := hid (show goodM m = false from goodM_t (by unfold tailM; omega))
                go_wp2
                go_ret
                exact ⟨by rw [HF.out]; rfl, HB.out⟩
              by_cases b6 : m.pi < 0
              · have HF := hid (show goodM m = false from goodM_t (by unfold tailM; omega))
                go_wp2
                go_ret
                exact ⟨by rw [HF.out]; rfl, HB.out⟩
              by_cases b7 : 18022 < m.pi
              · have HF := hid (show goodM m = false from goodM_t (by unfold tailM; omega))
                go_wp2
                go_ret
                exact ⟨by rw [HF.out]; rfl, HB.out⟩
              by_cases b8 : m.er < 0
              · have HF := hid (show goodM m = false from goodM_t (by unfold tailM; omega))
                go_wp2
                go_ret
                exact ⟨by rw [HF.out]; rfl, HB.out⟩
              by_cases b9 : 6 < m.er
              · have HF := hid (show goodM m = false from goodM_t (by unfold tailM; omega))
                have e9 : decide (m.er ≤ 6) = false := by simp; omega
                go_wp2
                go_ret
                exact ⟨by rw [HF.out]; rfl, HB.out⟩
              have HT := hid (show goodM m = true from goodM_yes HR.out HP.out HE.out (by unfold tailM; omega))
              go_wp2
              go_ret
              exact ⟨by rw [HT.out]; rfl, HB.out⟩
end Go.Proofs.YthoiikkjjaldnaaDoor

/- The reference's GoodMemory, and both sides' Fresh. -/
namespace Go.Proofs.YthoiikkjjaldnaaDoor
set_option linter.unusedVariables false
set_option linter.unusedSimpArgs false
set_option maxRecDepth 100000
open Go.RowKit

def freshM : Mm := ⟨List.replicate 8 0, List.replicate 8 0, List.replicate 80 0, 0, 0, 20, 0, 21845, false⟩
theorem freshM_ok : freshM.ok := ⟨rfl, rfl, rfl⟩
theorem freshM_ag : (Tryd.zeroCells30.setIfInBounds 98 (.int .i64 20)).setIfInBounds 100 (.int .i64 21845) = freshM.ag := by kernel_rfl
set_option maxHeartbeats 4000000 in
theorem fresh_any (w : World) : Calls Tryd.prog 8 #[] w fun e w' => e = .returned (.agg freshM.ag) ∧ Below w.heap.size w w' := by
  have hR := results_mem1 (fn := Tryd.f8) (p := 0) rfl
  have HZ : MB (w.alloc (.cells Tryd.zeroCells30 30)) w.heap.size zeroM := by rw [zeroM_ag]; exact MB.new w zeroM
  have HZ := hid HZ
  go_enter Tryd.func8, Tryd.ntmps8
  go_wp2_with (refine wpList_storeM rfl (.tmp 0) (.tmp 1) rfl _ zeroM freshM rfl (congrArg Value.agg freshM_ag) HZ.out zeroM_ok freshM_ok ?_)
  refine bodyPost_ret (v := _) (hR _ _ _ freshM rfl (MB.setRow HZ.out freshM) freshM_ok) rfl ?_
  exact ⟨rfl, below_setRow ((Below.refl _ w).alloc (Nat.le_refl _) _) (Nat.le_refl _) _⟩

end Go.Proofs.YthoiikkjjaldnaaDoor

/- The walk of the reference's Steady. -/
namespace Go.Proofs.YthoiikkjjaldnaaDoor
set_option linter.unusedVariables false
set_option linter.unusedSimpArgs false
set_option maxRecDepth 100000
open Go.RowKit

/-- A function that answers a Bool and makes new memory at most. -/
def AnsB (w : World) (b : Bool) (e : Ending) (w' : World) : Prop := e = .returned (.bool b) ∧ Below w.heap.size w w'

end Go.Proofs.YthoiikkjjaldnaaDoor

/- Plain law: a number of 112 bits and its 14 bytes. -/
namespace Go.Proofs.YthoiikkjjaldnaaDoor
set_option linter.unusedVariables false
set_option linter.unusedSimpArgs false
set_option maxRecDepth 100000
open Go.RowKit

/-- The byte from bit e on. -/
def digE (V e : Nat) : Nat := V / 2 ^ e % 256
theorem digE_lt (V e : Nat) : digE V e < 256 := Nat.mod_lt _ (by omega)
theorem digE_bit (V e q : Nat) : (digE V e).testBit q = (decide (q < 8) && V.testBit (e + q)) := by
  unfold digE
  rw [show 256 = 2 ^ 8 from rfl, Nat.testBit_mod_two_pow, Nat.testBit_div_two_pow, Nat.add_comm q e]
theorem bit_one {u : Nat} (hu : u ≤ 1) (x : Nat) : u.testBit x = (decide (x = 0) && decide (u = 1)) := by
  have : u = 0 ∨ u = 1 := by omega
  rcases this with rfl | rfl
  · simp
  · cases x with
    | zero => rfl
    | succ x => simp [Nat.testBit_succ]
/-- A bit put into its byte. -/
theorem digE_put {V u p e : Nat} (hu : u ≤ 1) (h1 : e ≤ p) (h2 : p < e + 8) : digE (V ||| u <<< p) e = digE V e ||| u <<< (p - e) := by
  apply Nat.eq_of_testBit_eq
  intro q
  rw [digE_bit, Nat.testBit_or, Nat.testBit_or, digE_bit, Nat.testBit_shiftLeft, Nat.testBit_shiftLeft, bit_one hu, bit_one hu]
  by_cases hq : q < 8
  · by_cases hv : V.testBit (e + q)
    · simp [hq, hv]
    · by_cases h3 : e + q = p
      · have h4 : q = p - e := by omega
        subst h4
        simp [hq, hv, h3]
      · by_cases h5 : p ≤ e + q
        · have h6 : ¬ q - (p - e) = 0 := by omega
          have h7 : ¬ e + q - p = 0 := by omega
          simp [h6, h7, hv]
        · have h6 : ¬ q ≥ p - e := by omega
          simp [h5, h6, hv]
  · by_cases h3 : q - (p - e) = 0
    · omega
    · simp [hq, h3]
/-- The other bytes stay. -/
theorem digE_far {V u p e : Nat} (hu : u ≤ 1) (h : p < e ∨ e + 8 ≤ p) : digE (V ||| u <<< p) e = digE V e := by
  apply Nat.eq_of_testBit_eq
  intro q
  rw [digE_bit, Nat.testBit_or, digE_bit, Nat.testBit_shiftLeft, bit_one hu]
  by_cases hq : q < 8
  · by_cases h5 : e + q ≥ p
    · have h7 : ¬ e + q - p = 0 := by omega
      simp [h7]
    · simp [h5]
  · simp [hq]
/-- The 14 bytes, the greatest first. -/
def digL (V : Nat) : List Int := (List.range 14).map (fun j => (digE V (8 * (13 - j)) : Int))
/-- One more bit of a number behind those ahead. -/
theorem put_bit (V v k P : Nat) : (V ||| (v >>> (k + 1)) <<< (P + 1)) ||| ((v >>> k % 2) <<< P) = V ||| (v >>> k) <<< P := by
  rw [Nat.or_assoc]
  congr 1
  apply Nat.eq_of_testBit_eq
  intro x
  have hu : v >>> k % 2 ≤ 1 := by omega
  rw [Nat.testBit_or, Nat.testBit_shiftLeft, Nat.testBit_shiftLeft, Nat.testBit_shiftLeft, Nat.testBit_shiftRight, Nat.testBit_shiftRight, bit_one hu]
  by_cases h1 : x ≥ P
  · by_cases h2 : x = P
    · subst h2
      have h3 : v.testBit k = decide (v >>> k % 2 = 1) := by
        rw [Nat.testBit, Nat.one_and_eq_mod_two]
        by_cases h : v >>> k % 2 = 1
        · simp [h]
        · have : v >>> k % 2 = 0 := by omega
          simp [this]
      have h6 : ¬ x ≥ x + 1 := by omega
      rw [decide_eq_false h6, decide_eq_true h1, Nat.sub_self, show k + 0 = k from rfl, h3]
      simp only [Bool.true_and, Bool.false_and, Bool.false_or, decide_true]
    · have h4 : ¬ x - P = 0 := by omega
      have h5 : k + 1 + (x - (P + 1)) = k + (x - P) := by omega
      have h6 : x ≥ P + 1 := by omega
      rw [decide_eq_true h1, decide_eq_true h6, decide_eq_false h4, h5]
      simp only [Bool.true_and, Bool.false_and, Bool.or_false]
  · have h6 : ¬ x ≥ P + 1 := by omega
    rw [decide_eq_false h1, decide_eq_false h6]
    rfl
theorem or_bytes (a b : Nat) (ha : a < 256) (hb : b < 256) : bits BinOp.or IntKind.u8 (a : Int) (b : Int) = ((a ||| b : Nat) : Int) := by
  have h : (BitVec.ofInt 8 (a : Int) ||| BitVec.ofInt 8 (b : Int)).toNat = a ||| b := by
    rw [BitVec.toNat_or, BitVec.toNat_ofInt, BitVec.toNat_ofInt]
    congr 1 <;> omega
  have h2 : a ||| b < 2 ^ 8 := Nat.or_lt_two_pow ha hb
  show IntKind.u8.wrap ((BitVec.ofInt 8 (a : Int) ||| BitVec.ofInt 8 (b : Int)).toNat : Int) = _
  rw [h]
  rw [IntKind.wrap_u8]
  omega
end Go.Proofs.YthoiikkjjaldnaaDoor
