/- The walks of the reference's at, grown. -/
import Derived.Test.YtcfmipobgljbeaaPush
import Derived.Test.YtcfmipobgljbeaaDownK
import Derived.Test.YtcfmipobgljbeaaLpcM
import Derived.IntWalk
namespace Go.Proofs.Ytcfmipobgljbeaa
set_option linter.unusedVariables false
set_option linter.unusedSimpArgs false
set_option maxRecDepth 100000
open Go.RowKit

theorem Rs.drew {w : World} {B : Nat} {A : Option Addr} {xs : List Int} (h : Rs w B A xs) : Rs w.drew B A xs := h
theorem Rs.drewN {w : World} {B : Nat} {A : Option Addr} {xs : List Int} (h : Rs w B A xs) (n : Nat) : Rs (w.drewN n) B A xs := h

set_option maxHeartbeats 1000000 in
theorem at_any (A : Option Addr) (c B : Nat) (xs : List Int) (i n : Nat) (w : World) (hr : Rs w B A xs) (hl : xs.length = n) (hn : n ≤ 100) :
    Calls Try.prog 116 #[.slice A n c, .int .i64 (i : Nat)] w fun e w' => e = .returned (.int .i64 (xs.getD i 0)) ∧ w = w' := by
  by_cases h : i < n
  · obtain ⟨ad, rfl, _, hc⟩ := hr.at_ (k := i) (by omega)
    generalize xs.getD i 0 = x at *
    clear hr hl
    go_enter Try.func116, Try.ntmps116
    go_wp2
    go_ret
    exact ⟨rfl, rfl⟩
  · have hv : xs.getD i 0 = 0 := by rw [List.getD_eq_getElem?_getD, List.getElem?_eq_none (by omega)]; rfl
    rw [hv]
    clear hr hl hv
    go_enter Try.func116, Try.ntmps116
    go_wp2
    go_ret
    exact ⟨rfl, rfl⟩

/-- A slice of numbers in new memory. -/
def NewS (w : World) (xs : List Int) (e : Ending) (w' : World) : Prop := ∃ A c, e = .returned (.slice A xs.length c) ∧ Own w' w.heap.size A c xs ∧ Below w.heap.size w w'

theorem keep_cell {wr w1 : World} {p : Addr} {v : Value} (hB : Below wr.drew.heap.size wr.drew w1) (hc : wr.cell? p = some v) : w1.cell? p = some v :=
  (hB.cell (World.block_lt_of_cell? wr p hc)).trans hc
theorem keep_frozen {wr w1 : World} {p : Addr} {v : Value} (hB : Below wr.drew.heap.size wr.drew w1) (hc : wr.cell? p = some v) (hf : wr.frozen? p = false) : w1.frozen? p = false :=
  (hB.frozen (World.block_lt_of_cell? wr p hc)).trans hf

/-- Ahead of round i: the numbers below i are the new predictor's. -/
def GrowMid (a zs : List Int) (q : Int) (m i : Nat) : Prop := zs.length = m + 1 ∧ ∀ j, j ≤ m → zs.getD j 0 = if j < i then (growL a q m).getD j 0 else a.getD j 0

theorem GrowMid.step {a zs : List Int} {q : Int} {m i : Nat} (h : GrowMid a zs q m i) (h0 : 1 ≤ i) (hi : i ≤ m) :
    GrowMid a (zs.set i (a.getD i 0 + q * a.getD (m - i) 0 / 32768)) q m (i + 1) := by
  refine ⟨by simpa using h.1, fun j hj => ?_⟩
  by_cases he : i = j
  · subst he
    rw [get_set_same _ _ _ (by rw [h.1]; omega), if_pos (by omega), growL_get _ _ _ _ hi, if_neg (by omega)]
  · rw [get_set_other _ _ he, h.2 j hj]
    by_cases h2 : j < i
    · rw [if_pos h2, if_pos (by omega)]
    · rw [if_neg h2, if_neg (by omega)]
theorem below_undrew {wr w1 : World} (h : Below wr.drew.heap.size wr.drew w1) : Below wr.heap.size wr w1 := ⟨h.os, h.tape, h.output, h.size, h.block⟩

set_option maxHeartbeats 4000000 in
theorem grown_any (A : Option Addr) (c : Nat) (xs : List Int) (q : Int) (m : Nat) (w : World) (hr : Rs w w.heap.size A xs) (hl : xs.length = m) (hm0 : 1 ≤ m) (hm : m ≤ 20) (hq : -32768 ≤ q ∧ q ≤ 32768) (hx : Within 4294967296 xs) :
    Calls Try.prog 94 #[.slice A m c, .int .i64 q] w (NewS w (growL xs q m)) := by
  have HR := hid hr
  have HL := hid hl
  have HX := hid hx
  clear hr hx
  subst hl
  go_enter Try.func94, Try.ntmps94
  go_wp2_with (first
    | (at_builtin; refine wpList_cat rfl (.const (.slice none 0 0)) (.tmp 7) rfl w.heap.size none 0 [] rfl Own.nil w.heap.size A c xs rfl HR.out (by simp; omega) (Nat.le_refl _) ?_; intro A1 c1 w1 hO hG hA; simp only [List.nil_append] at hO; have O1 := hid hO; have B1 := hid ((Below.refl w.heap.size w).grown hG (Nat.le_refl _) (by simp)); clear hO hG hA)
    | (at_builtin; refine wpList_push rfl (.tmp 8) (.tmp 9) rfl w.heap.size A1 c1 xs rfl (O1.out.alloc _) ⟨w1.heap.size, 0, none⟩ 0 rfl (cell_new w1 _ _) (by omega) (Nat.le_trans B1.out.size (by simp)) ?_; intro A2 c2 w2 hO hG hA; obtain ⟨g, rfl, hg1, hg2⟩ := hO.head (by simp); have O2 := hid hO; have B2 := hid ((B1.out.alloc B1.out.size _).grown hG (Nat.le_trans B1.out.size (by simp)) (by intro k hk; cases A1 with | none => cases hk | some ad => (simp at hk; subst hk; exact (O1.out.lt _ rfl).1))); clear hO hG hA))
  have MID := hid (show GrowMid xs (xs ++ [0]) q xs.length 1 from ⟨by simp, fun j hj => by
    by_cases h : j < 1
    · obtain rfl : j = 0 := by omega
      rw [if_pos h, growL_get _ _ _ _ (by omega), if_pos rfl]
      simp only [List.getD_eq_getElem?_getD]
      rw [List.getElem?_append_left (by omega)]
    · rw [if_neg h]
      simp only [List.getD_eq_getElem?_getD]
      by_cases h2 : j < xs.length
      · rw [List.getElem?_append_left h2]
      · obtain rfl : j = xs.length := by omega
        simp⟩)
  clear O1 B1
  go_loopw [6] (fun iv wr => ∃ (i : Nat) (zs : List Int), 1 ≤ i ∧ i ≤ xs.length + 1 ∧ iv = .int .i64 i ∧ Hid (GrowMid xs zs q xs.length i) ∧ Hid (Own wr w.heap.size (some ⟨g, 0, none⟩) c2 zs) ∧ Hid (Below w.heap.size w wr)) (fun iv _ => xs.length + 1 - (intOf iv).toNat)
  case atStart => exact ⟨1, xs ++ [0], by omega, by omega, rfl, MID, O2, B2⟩
  case round =>
    clear O2 B2 MID
    obtain ⟨i, zs, hi1, hi2, rfl, HM, HO, HB⟩ := hrel
    by_cases hlt : i < xs.length + 1
    · have co := HO.out.cell i (by rw [HM.out.1]; omega)
      have fo := HO.out.frozen i
      obtain ⟨d, hd⟩ : ∃ d : Nat, xs.length = i + d := ⟨xs.length - i, by omega⟩
      have hsub : (xs.length : Int) - (i : Int) = (d : Nat) := by omega
      have hw1 : IntKind.i64.wrap (xs.length : Int) = (xs.length : Int) := by rw [IntKind.wrap_i64]; omega
      have hw2 : IntKind.i64.wrap ((xs.length : Int) - (i : Int)) = (d : Nat) := by rw [IntKind.wrap_i64]; omega
      rw [HM.out.2 i (by omega), if_neg (by omega)] at co
      have KT := hid (fun W (h : Rs W w.heap.size A xs) => at_any A c w.heap.size xs d xs.length W h rfl (by omega))
      have RW := hid ((HR.out.below HB.out).drew)
      have NEXT := hid (HM.out.step hi1 (by omega))
      rw [show xs.length - i = d from by omega] at NEXT
      have bx := HX.out i
      have by' := HX.out d
      generalize xs.getD i 0 = x at *
      generalize xs.getD d 0 = y at *
      obtain ⟨bx1, bx2⟩ := bx
      obtain ⟨by1, by2⟩ := by'
      have pr := mul_bound (x := q) (X := 32768) (y := y) (Y := 4294967296) (by omega) (by omega) hq ⟨by omega, by omega⟩
      have p1 : -140737488355328 ≤ q * y := by omega
      have p2 : q * y ≤ 140737488355328 := by omega
      have hw3 : IntKind.i64.wrap (q * y) = q * y := by rw [IntKind.wrap_i64]; omega
      have hw4 : IntKind.i64.wrap (x + q * y / 32768) = x + q * y / 32768 := by rw [IntKind.wrap_i64]; omega
      have KD := hid (fun W => down15 (q * y) W (by omega) (by omega))
      have HD := hid hd
      clear pr hd hsub
      go_wp2
      go_region_with (first
        | (go_at_call 116; ((with_reducible refine (KT.out _ RW.out).mono ?_); rintro e w' ⟨rfl, rfl⟩))
        | (go_at_call 29; (with_reducible refine (KD.out _).mono ?_); rintro e w3 ⟨rfl, hB⟩; have k1 := keep_cell hB co; have k2 := keep_frozen hB co fo; have q1 := hid hB; clear hB))
      all_goals
        clear hw1 hw2 hw3 hw4
        have OB := hid ((HO.out.below (below_undrew q1.out)).set_ i (by rw [HM.out.1]; omega) (x + q * y / 32768))
        have BB := hid ((HB.out.trans ((below_undrew q1.out).mono HB.out.size)).setCell (p := ⟨g, i, none⟩) hg1 (.int .i64 (x + q * y / 32768)))
        go_wp2
        go_roundw
        case rel => exact ⟨i + 1, _, by omega, by omega, by go_num, NEXT, OB, BB⟩
        case measure => simp [intOf] <;> omega
    · obtain rfl : i = xs.length + 1 := by omega
      have HF := hid (show zs = growL xs q xs.length from list_ext (by rw [HM.out.1, growL_len]) (fun j hj => by
        rw [HM.out.2 j (by rw [HM.out.1] at hj; omega), if_pos (by rw [HM.out.1] at hj; omega)]))
      have HL2 := HM.out.1
      go_wp2
      go_ret
      refine ⟨_, _, ?_, by rw [← HF.out]; exact HO.out, HB.out⟩
      rw [growL_len]
      rfl
end Go.Proofs.Ytcfmipobgljbeaa
