/- The walk of the reference's newest. -/
import Derived.Test.YthajpmilccpgeaaPushW
namespace Go.Proofs.Ythajpmilccpgeaa
set_option linter.unusedVariables false
set_option linter.unusedSimpArgs false
set_option maxRecDepth 100000
open Go.RowKit

/-- The two boxes and the row that is filled: the past, the answer's, the row. -/
structure Nx (w wr : World) (p ys : List Int) : Prop where
  A : IB wr w.heap.size 33 p
  R : IB wr (w.heap.size + 1) 33 Z8
  O : IB wr (w.heap.size + 2) 33 ys
  bel : Below w.heap.size w wr
theorem Nx.start (w : World) (p : List Int) : Nx w (((w.alloc (.cells (agi p) 33)).alloc (.cells (agi Z8) 33)).alloc (.cells (agi Z8) 33)) p Z8 := by
  have h1 := IB.new w 33 p
  have h2 := IB.new (w.alloc (.cells (agi p) 33)) 33 Z8
  have h3 := IB.new ((w.alloc (.cells (agi p) 33)).alloc (.cells (agi Z8) 33)) 33 Z8
  simp only [World.size_alloc] at h2 h3
  exact ⟨Blk.alloc (Blk.alloc h1 _) _, Blk.alloc h2 _, h3, ((((Below.refl _ _).alloc (Nat.le_refl _) _).alloc (by simp) _).alloc (by simp; omega) _)⟩
theorem Nx.set_ {w wr : World} {p ys : List Int} (h : Nx w wr p ys) (k : Nat) (x : Int) : Nx w (wr.setCell ⟨w.heap.size + 2, k, none⟩ (.int .i64 x)) p (ys.set k x) :=
  ⟨Blk.far h.A (by show w.heap.size ≠ w.heap.size + 2; omega) _, Blk.far h.R (by show w.heap.size + 1 ≠ w.heap.size + 2; omega) _, IB.set_ h.O k x, h.bel.setCell (p := ⟨w.heap.size + 2, k, none⟩) (by show w.heap.size ≤ w.heap.size + 2; omega) _⟩
theorem Nx.drew {w wr : World} {p ys : List Int} (h : Nx w wr p ys) : Nx w wr.drew p ys := ⟨h.A, h.R, h.O, h.bel.drew⟩

set_option maxHeartbeats 4000000 in
theorem newest_any (p l : List Int) (A : Option Addr) (c n B : Nat) (w : World) (hp : p.length = 8) (hr : Rs w w.heap.size A l) (hn : l.length = n) (hl : n ≤ 17592186044416) :
    Calls Try.prog 68 #[.agg (agi p), .slice A n c] w fun e w' => e = .returned (.agg (agi (newL p l))) ∧ Below w.heap.size w w' := by
  have hR := results_row1 (fn := Try.f68) (p := 4) (ty := 33) rfl
  have S0 := Nx.start w p
  rw [z8_eq] at S0
  have S0 := hid S0
  have HP := hid hp
  have HN := hid hn
  have HR := hid hr
  have FL := hid (newL_range (l := l) hp)
  clear hp hn hr
  go_enter Try.func68, Try.ntmps68
  go_wp2
  go_loopw [7] (fun iv wr => ∃ (k : Nat) (ys : List Int), k ≤ 8 ∧ iv = .int .i64 k ∧ Hid (ys.length = 8 ∧ ∀ j, j < k → ys.getD j 0 = newAt p l j) ∧ Hid (Nx w wr p ys)) (fun iv _ => 8 - (intOf iv).toNat)
  case atStart => exact ⟨0, Z8, by omega, rfl, hid ⟨rfl, fun j h => by omega⟩, S0⟩
  case round =>
    clear S0
    obtain ⟨k, ys, hk, rfl, HY, HS⟩ := hrel
    have f0 := fun i => Blk.frozen HS.out.O i
    by_cases hlt : k < 8
    · have NEXT := fun x (hx : x = newAt p l k) => hid (show (ys.set k x).length = 8 ∧ ∀ j, j < k + 1 → (ys.set k x).getD j 0 = newAt p l j from by
        obtain ⟨y1, y2⟩ := HY.out
        refine ⟨by simpa using y1, fun j hj => ?_⟩
        by_cases he : k = j
        · subst he
          rw [get_set_same _ _ _ (by omega), hx]
        · rw [get_set_other _ _ he]
          exact y2 j (by omega))
      have cy := IB.cell HS.out.O k (by rw [HY.out.1]; omega)
      have fy := f0 k
      clear f0
      by_cases hin : k < n
      · obtain ⟨d, hd⟩ : ∃ d : Nat, n = k + 1 + d := ⟨n - (k + 1), by omega⟩
        obtain ⟨ad, rfl, _, c1⟩ := (HR.out.below HS.out.bel).at_ (k := d) (by rw [HN.out]; omega)
        have HX := NEXT (l.getD d 0) (by unfold newAt; rw [if_pos (by rw [HN.out]; exact hin), HN.out]; congr 1; omega)
        have SX := hid (HS.out.set_ k (l.getD d 0))
        have SD := hid (SX.out.drew)
        have hw1 : IntKind.i64.wrap ((n : Int) - 1) = (n : Int) - 1 := by rw [IntKind.wrap_i64]; omega
        have hw2 : IntKind.i64.wrap ((n : Int) - 1 - (k : Int)) = (d : Nat) := by rw [IntKind.wrap_i64]; omega
        generalize l.getD d 0 = x at *
        have hdi : (d : Int) < n := by omega
        have HD := hid hd
        clear hd NEXT
        go_wp2
        go_roundw
        case rel => exact ⟨k + 1, _, by omega, by go_num, HX, SX⟩
        case measure => simp [intOf] <;> omega
      · obtain ⟨d, hd⟩ : ∃ d : Nat, k = n + d := ⟨k - n, by omega⟩
        have c1 := IB.cell HS.out.A d (by rw [HP.out]; omega)
        have HX := NEXT (p.getD d 0) (by unfold newAt; rw [if_neg (by rw [HN.out]; exact hin), HN.out]; congr 1; omega)
        have SX := hid (HS.out.set_ k (p.getD d 0))
        have hw2 : IntKind.i64.wrap ((k : Int) - (n : Int)) = (d : Nat) := by rw [IntKind.wrap_i64]; omega
        generalize p.getD d 0 = x at *
        have hdi : (d : Int) < 8 := by omega
        have hd8 : d < 8 := by omega
        have HD := hid hd
        clear hd NEXT
        go_wp2
        go_roundw
        case rel => exact ⟨k + 1, _, by omega, by go_num, HX, SX⟩
        case measure => simp [intOf] <;> omega
    · obtain rfl : k = 8 := by omega
      have YE := hid (show ys = newL p l from by
        rw [FL.out]
        obtain ⟨y1, y2⟩ := HY.out
        exact list_ext (by rw [y1]; simp) fun j hj => by rw [y2 j (by omega)]; simp [show j < 8 by omega])
      have LY := hid HY.out.1
      clear hlt f0
      have hRow := hid (IB.setRow HS.out.R ys)
      have FIN := hid (below_setRow HS.out.bel (g := w.heap.size + 1) (by omega) (agi ys))
      go_wp2_with (first
        | (refine wpList_loadI rfl 33 (.tmp 5) rfl _ 33 ys 8 _ rfl HS.out.O Try.underlying33 rfl size8 LY.out ?_)
        | (refine wpList_storeI rfl 33 (.tmp 4) (.tmp 33) rfl _ 33 Z8 ys 8 rfl rfl HS.out.R size8 rfl LY.out ?_))
      refine bodyPost_ret (v := _) (hR _ _ _ 33 ys _ 8 rfl hRow.out Try.underlying33 rfl size8 LY.out) rfl ?_
      exact ⟨by rw [YE.out], FIN.out⟩
end Go.Proofs.Ythajpmilccpgeaa
