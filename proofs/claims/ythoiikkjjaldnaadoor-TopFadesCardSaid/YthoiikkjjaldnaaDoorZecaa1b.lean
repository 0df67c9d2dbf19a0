/- Texts that the law rests on, laid together: CorW. -/
import Derived.Test.YthoiikkjjaldnaaDoorZ1fa083
import Derived.Test.YthoiikkjjaldnaaDoorZcef1c1
import Derived.Test.YthoiikkjjaldnaaDoorZ6b4648
import Derived.Test.YthoiikkjjaldnaaDoorZ10bfcc
import Derived.BigRegion
import Derived.LoopN
/- The walk of the program's Correlate. -/
namespace Go.Proofs.YthoiikkjjaldnaaDoor
set_option linter.unusedVariables false
set_option linter.unusedSimpArgs false
set_option maxRecDepth 100000
open Go.RowKit

def corErr (l : List Int) : Int := if l.length = 120 then errOf (all16 l) else 1
theorem size9c : (Tryd.prog.info? 69).map (·.size) = some 9 := by kernel_rfl
/-- The zero cells of the window. -/
def zc120 : Array Value := agi (List.replicate 120 0)
theorem zero120 : zc120 = agi (List.replicate 120 0) := rfl
theorem zc120_size : zc120.size = 120 := by unfold zc120; rw [agi_size, List.length_replicate]
theorem zc120_ne : ¬ zc120 = #[] := fun h => by
  have := zc120_size
  rw [h] at this
  simp at this
theorem zv120 (w : World) : (zeroValue 26).run Tryd.prog w = .ok (.agg zc120) w := by kernel_rfl
/-- The windowed samples up to k. -/
def corN (l : List Int) (k : Nat) : List Int := (List.range 120).map (fun j => if j < k then corW l j else 0)
theorem corN_len (l : List Int) (k : Nat) : (corN l k).length = 120 := by simp [corN]
theorem corN_zero (l : List Int) : corN l 0 = List.replicate 120 0 := by
  refine list_ext (by rw [corN_len]; simp) fun j hj => ?_
  rw [corN_len] at hj
  unfold corN
  rw [range_get _ hj, if_neg (by omega), List.getD_eq_getElem?_getD, List.getElem?_replicate, if_pos hj]
  rfl
theorem corN_set (l : List Int) {k : Nat} (hk : k < 120) : (corN l k).set k (corW l k) = corN l (k + 1) := by
  refine list_ext (by rw [List.length_set, corN_len, corN_len]) fun j hj => ?_
  rw [List.length_set, corN_len] at hj
  by_cases e : k = j
  · subst e
    rw [get_set_same _ _ _ (by rw [corN_len]; exact hk)]
    unfold corN
    rw [range_get _ hj, if_pos (by omega)]
  · rw [get_set_other _ _ e]
    unfold corN
    rw [range_get _ hj, range_get _ hj]
    by_cases h2 : j < k
    · rw [if_pos h2, if_pos (by omega)]
    · rw [if_neg h2, if_neg (by omega)]
theorem corN_at (l : List Int) {j : Nat} (hj : j < 120) : (corN l 120).getD j 0 = corW l j := by unfold corN; rw [range_get _ hj, if_pos hj]
/-- The sums while the sum k has n products. -/
def corR (l : List Int) (k n : Nat) : List Int := (List.range 9).map (fun j => if j < k then corS l j (120 - j) else if j = k then corS l k n else 0)
theorem corR_len (l : List Int) (k n : Nat) : (corR l k n).length = 9 := by simp [corR]
theorem corR_at (l : List Int) {k : Nat} (hk : k < 9) (n : Nat) : (corR l k n).getD k 0 = corS l k n := by unfold corR; rw [range_get _ hk, if_neg (by omega), if_pos rfl]
theorem corR_set (l : List Int) {k : Nat} (hk : k < 9) (n : Nat) : (corR l k n).set k (corS l k (n + 1)) = corR l k (n + 1) := by
  refine list_ext (by rw [List.length_set, corR_len, corR_len]) fun j hj => ?_
  rw [List.length_set, corR_len] at hj
  by_cases e : k = j
  · subst e
    rw [get_set_same _ _ _ (by rw [corR_len]; exact hk)]
    unfold corR
    rw [range_get _ hj, if_neg (by omega), if_pos rfl]
  · rw [get_set_other _ _ e]
    unfold corR
    rw [range_get _ hj, range_get _ hj]
    by_cases h2 : j < k
    · rw [if_pos h2, if_pos h2]
    · rw [if_neg h2, if_neg (by omega), if_neg h2, if_neg (by omega)]
theorem corR_next (l : List Int) (k : Nat) : corR l k (120 - k) = corR l (k + 1) 0 := by
  refine list_ext (by rw [corR_len, corR_len]) fun j hj => ?_
  rw [corR_len] at hj
  unfold corR
  rw [range_get _ hj, range_get _ hj]
  by_cases h1 : j < k
  · rw [if_pos h1, if_pos (by omega)]
  · rw [if_neg h1]
    by_cases h2 : j = k
    · subst h2; rw [if_pos rfl, if_pos (by omega)]
    · rw [if_neg h2, if_neg (by omega)]
      by_cases h3 : j = k + 1
      · subst h3; rw [if_pos rfl]; rfl
      · rw [if_neg h3]

theorem corR_end (l : List Int) {j : Nat} (hj : j < 9) : (corR l 9 0).getD j 0 = corS l j (120 - j) := by unfold corR; rw [range_get _ hj, if_pos hj]
/-- The sum j, the first one at least 1. -/
def corX (l : List Int) (j : Nat) : Int := if j = 0 then corZ l else corS l j (120 - j)
theorem corX_le (l : List Int) {j : Nat} (hj : j < 9) : -corZ l ≤ corX l j ∧ corX l j ≤ corZ l := by
  have h0 := sqs_nn l 120
  have h1 := corZ_eq l
  unfold corX
  split
  · omega
  · have := cor_le l (k := j) (n := 120 - j) (by omega)
    omega
def corQ (x : Int) (k : Nat) : Int := x - x * k * k / 8192
/-- The sums moved by f, the first k of them finished. -/
def corF (l : List Int) (f : Int → Int) (k : Nat) : List Int := (List.range 9).map (fun j => if j < k then corQ (f (corX l j)) j else corX l j)
theorem corF_len (l : List Int) (f : Int → Int) (k : Nat) : (corF l f k).length = 9 := by simp [corF]
theorem corF_at (l : List Int) (f : Int → Int) {k : Nat} (hk : k < 9) : (corF l f k).getD k 0 = corX l k := by unfold corF; rw [range_get _ hk, if_neg (by omega)]
theorem corF_set (l : List Int) (f : Int → Int) {k : Nat} (hk : k < 9) : (corF l f k).set k (corQ (f (corX l k)) k) = corF l f (k + 1) := by
  refine list_ext (by rw [List.length_set, corF_len, corF_len]) fun j hj => ?_
  rw [List.length_set, corF_len] at hj
  by_cases e : k = j
  · subst e
    rw [get_set_same _ _ _ (by rw [corF_len]; exact hk)]
    unfold corF
    rw [range_get _ hj, if_pos (by omega)]
  · rw [get_set_other _ _ e]
    unfold corF
    rw [range_get _ hj, range_get _ hj]
    by_cases h2 : j < k
    · rw [if_pos h2, if_pos (by omega)]
    · rw [if_neg h2, if_neg (by omega)]
theorem corF_zero (l : List Int) (f : Int → Int) : (corR l 9 0).set 0 (corZ l) = corF l f 0 := by
  refine list_ext (by rw [List.length_set, corR_len, corF_len]) fun j hj => ?_
  rw [List.length_set, corR_len] at hj
  unfold corF
  rw [range_get _ hj, if_neg (by omega)]
  unfold corX
  by_cases e : 0 = j
  · subst e
    rw [get_set_same _ _ _ (by rw [corR_len]; omega), if_pos rfl]
  · rw [get_set_other _ _ e, if_neg (by omega), corR_end l hj]
/-- What Correlate answers. -/
def CorAns (l : List Int) (w : World) (e : Ending) (w' : World) : Prop :=
  ∃ (f : Int → Int) (N : Int), e = .returned (.tuple #[.agg (agi (corF l f 9)), .int .i64 N, .int .i64 0]) ∧ Below w.heap.size w w' ∧
    ((∃ n : Nat, N = (n : Int) ∧ 0 < n ∧ f = (fun x => x / 2 ^ n) ∧ corZ l / 2 ^ n ≤ 2147483647 ∧ 2147483647 < corZ l / 2 ^ (n - 1)) ∨
     (∃ m : Nat, N = -(m : Int) ∧ f = (fun x => x * 2 ^ m) ∧ corZ l ≤ 2147483647 ∧ 1073741824 ≤ corZ l * 2 ^ m ∧ ∀ j, j < m → corZ l * 2 ^ j < 1073741824))
set_option maxHeartbeats 8000000 in
theorem correlate_good (A : Option Addr) (c n : Nat) (l : List Int) (w : World) (hr : Rs w w.heap.size A l) (hn : l.length = 120) (g : all16 l = true) :
    Calls Tryd.prog 25 #[.slice A 120 c] w (CorAns l w) := by
  have hR := results_row3 (fn := Tryd.f25) (p := 2) (q := 3) (r := 4) (ty := 69) rfl
  have KR := hid (fun (W : World) (h : Rs W W.heap.size A l) => frontright_any A c 120 W.heap.size l W h hn (by omega))
  rw [g] at KR
  have G := hid (show In16 l from all16_at g)
  have HR := hid hr
  have HN := hid hn
  have B0 := (((Below.refl w.heap.size w).alloc (Nat.le_refl _) (.cells (agi Z9) 69)).alloc (by simp) (.cells (agi Z9) 69))
  have B1 := B0.alloc (by simp; omega) (.cells zc120 26)
  have I0 := Blk.alloc (Blk.alloc (IB.new w 69 Z9) (.cells (agi Z9) 69)) (.cells zc120 26)
  have R0 := Blk.alloc (IB.new (w.alloc (.cells (agi Z9) 69)) 69 Z9) (.cells zc120 26)
  have W0 := Blk.new ((w.alloc (.cells (agi Z9) 69)).alloc (.cells (agi Z9) 69)) 26 zc120
  simp only [World.size_alloc] at I0 R0 W0
  clear hr hn g
  have hzv : ∀ w, (zeroValue 26).run Tryd.prog w = .ok (.agg zc120) w := zv120
  have hzn := zc120_ne
  have hzs := zc120_size
  go_enter Tryd.func25, Tryd.ntmps25
  go_wp2_with fail
  refine (KR.out _ ((HR.out.below B0).more B0.size)).mono ?_
  rintro e w1 ⟨rfl, rfl⟩
  clear B0
  go_wp2
  clear hzv hzn hzs
  have I1 := hid (show IB (((w.alloc (.cells (agi Z9) 69)).alloc (.cells (agi Z9) 69)).alloc (.cells zc120 26)) w.heap.size 69 Z9 from I0)
  have R1 := hid (show IB (((w.alloc (.cells (agi Z9) 69)).alloc (.cells (agi Z9) 69)).alloc (.cells zc120 26)) (w.heap.size + 1) 69 Z9 from R0)
  have W1 := hid (show IB (((w.alloc (.cells (agi Z9) 69)).alloc (.cells (agi Z9) 69)).alloc (.cells zc120 26)) (w.heap.size + 1 + 1) 26 (corN l 0) from by rw [corN_zero]; unfold IB; rw [← zero120]; exact W0)
  have BH := hid B1
  clear B1
  obtain ⟨V, hV⟩ : ∃ V, V = (((w.alloc (.cells (agi Z9) 69)).alloc (.cells (agi Z9) 69)).alloc (.cells zc120 26)) := ⟨_, rfl⟩
  rw [← hV] at I1 R1 W1 BH ⊢
  clear hV I0 R0 W0
  go_loopw [23] (fun iv wr => ∃ i : Nat, i ≤ 120 ∧ iv = .int .i64 i ∧ Hid (IB wr w.heap.size 69 Z9) ∧ Hid (IB wr (w.heap.size + 1) 69 Z9) ∧ Hid (IB wr (w.heap.size + 1 + 1) 26 (corN l i)) ∧ Hid (Below w.heap.size w wr)) (fun iv _ => 120 - (intOf iv).toNat)
  case atStart => exact ⟨0, by omega, rfl, I1, R1, W1, BH⟩
  case round =>
    clear I1 R1 W1 BH
    obtain ⟨i, hi, rfl, HI, HRr, HW, HB⟩ := hrel
    by_cases hlt : i < 120
    · obtain ⟨ad, rfl, hadb, c0⟩ := (HR.out.below HB.out).at_ (k := i) (by rw [HN.out]; exact hlt)
      have x16 := G.out i
      have yr := wgt_range (i : Nat)
      have HSet := hid (corN_set l hlt)
      have HC := hid (show corW l i = (l.getD i 0 * wgt (i : Nat) + 16384) / 32768 from rfl)
      have cw := IB.cell HW.out i (by rw [corN_len]; exact hlt)
      have fw := Blk.frozen HW.out i
      have KW := hid (fun W => weight_any (i : Nat) W)
      generalize l.getD i 0 = x at *
      generalize wgt (i : Nat) = y at *
      have pr := mul_bound (x := x) (X := 32768) (y := y) (Y := 32767) (by omega) (by omega) ⟨by omega, by omega⟩ ⟨by omega, by omega⟩
      have p1 : -1073709056 ≤ x * y := by omega
      have p2 : x * y ≤ 1073709056 := by omega
      have in0 : (0 : Int) ≤ i := by omega
      have in1 : (i : Int) < 120 := by omega
      have NW := hid (show IB (wr.setCell ⟨w.heap.size + 1 + 1, i, none⟩ (.int .i64 ((x * y + 16384) / 32768))) (w.heap.size + 1 + 1) 26 (corN l (i + 1)) from by rw [← HSet.out, HC.out]; exact IB.set_ HW.out i _)
      have NI := hid (Blk.far HI.out (p := ⟨w.heap.size + 1 + 1, i, none⟩) (by show w.heap.size ≠ w.heap.size + 1 + 1; omega) (.int .i64 ((x * y + 16384) / 32768)))
      have NR := hid (Blk.far HRr.out (p := ⟨w.heap.size + 1 + 1, i, none⟩) (by show w.heap.size + 1 ≠ w.heap.size + 1 + 1; omega) (.int .i64 ((x * y + 16384) / 32768)))
      have NB := hid (HB.out.setCell (p := ⟨w.heap.size + 1 + 1, i, none⟩) (by show w.heap.size ≤ w.heap.size + 1 + 1; omega) (.int .i64 ((x * y + 16384) / 32768)))
      clear pr x16 yr
      go_wp2_with (go_at_call 44; (with_reducible refine (KW.out _).mono ?_); rintro e w' ⟨rfl, rfl⟩)
      go_roundw
      case rel => exact ⟨i + 1, by omega, by go_num, NI, NR, NW, NB⟩
      case measure => simp [intOf] <;> omega
    · obtain rfl : i = 120 := by omega
      have RZ := hid (show IB wr (w.heap.size + 1) 69 (corR l 0 0) from by
        have e : corR l 0 0 = Z9 := by
          refine list_ext (by rw [corR_len]; rfl) fun j hj => ?_
          rw [corR_len] at hj
          unfold corR Z9
          rw [range_get _ hj, if_neg (by omega), List.getD_eq_getElem?_getD, List.getElem?_replicate, if_pos hj]
          split <;> rfl
        rw [e]; exact HRr.out)
      go_wp2
      go_loopw [37] (fun kv wr => ∃ k : Nat, k ≤ 9 ∧ kv = .int .i64 k ∧ Hid (IB wr w.heap.size 69 Z9) ∧ Hid (IB wr (w.heap.size + 1) 69 (corR l k 0)) ∧ Hid (IB wr (w.heap.size + 1 + 1) 26 (corN l 120)) ∧ Hid (Below w.heap.size w wr)) (fun kv _ => 9 - (intOf kv).toNat)
      case atStart => exact ⟨0, by omega, rfl, HI, RZ, HW, HB⟩
      case round =>
        clear HI RZ HW HB HRr
        obtain ⟨k, hk, rfl, HI, HRr, HW, HB⟩ := hrel
        obtain ⟨wo, rfl⟩ : ∃ wo : World, wo = wr := ⟨_, rfl⟩
        by_cases hlk : k < 9
        · have hdec : decide ((k : Int) < 9) = true := by simp; omega
          go_wp2
          go_loopw [10] (fun iv wr => ∃ (i m : Nat), i ≤ 120 ∧ i = m + k ∧ iv = .int .i64 i ∧ Hid (IB wr w.heap.size 69 Z9) ∧ Hid (IB wr (w.heap.size + 1) 69 (corR l k m)) ∧ Hid (IB wr (w.heap.size + 1 + 1) 26 (corN l 120)) ∧ Hid (Below w.heap.size w wr)) (fun iv _ => 120 - (intOf iv).toNat)
          case atStart => exact ⟨k, 0, by omega, by omega, rfl, HI, HRr, HW, HB⟩
          case round =>
            clear HI HRr HW HB
            obtain ⟨i, m, hi, him, rfl, HI, HRr, HW, HB⟩ := hrel
            by_cases hli : i < 120
            · have ck := IB.cell HRr.out k (by rw [corR_len]; exact hlk)
              rw [corR_at l hlk] at ck
              have fk := Blk.frozen HRr.out k
              have ci := IB.cell HW.out i (by rw [corN_len]; exact hli)
              rw [corN_at l hli] at ci
              have cm := IB.cell HW.out m (by rw [corN_len]; omega)
              rw [corN_at l (by omega)] at cm
              have ST := hid (show corS l k (m + 1) = corS l k m + corW l i * corW l m by
                unfold corS
                simp only [sumN]
                unfold corT
                rw [him, Int.mul_comm])
              have HSet := hid (corR_set l hlk m)
              have sr := corS_range G.out k m (by omega)
              have r1 := corW_range G.out i
              have r2 := corW_range G.out m
              generalize corW l i = x at *
              generalize corW l m = y at *
              obtain ⟨s, hs⟩ : ∃ s, s = corS l k m := ⟨_, rfl⟩
              rw [← hs] at ck ST sr
              have pr := mul_bound (x := x) (X := 32768) (y := y) (Y := 32768) (by omega) (by omega) ⟨by omega, by omega⟩ ⟨by omega, by omega⟩
              have p1 : -1073741824 ≤ x * y := by omega
              have p2 : x * y ≤ 1073741824 := by omega
              have hw0 : IntKind.i64.wrap ((i : Int) - (k : Nat)) = (m : Nat) := by rw [IntKind.wrap_i64]; omega
              have hw1 : IntKind.i64.wrap (x * y) = x * y := by rw [IntKind.wrap_i64]; omega
              have hw2 : IntKind.i64.wrap (s + x * y) = s + x * y := by rw [IntKind.wrap_i64]; omega
              have i1 : (i : Int) < 120 := by omega
              have i2 : (0 : Int) ≤ i := by omega
              have i3 : (m : Int) < 120 := by omega
              have i4 : (0 : Int) ≤ m := by omega
              have i5 : (k : Int) < 9 := by omega
              have i6 : (0 : Int) ≤ k := by omega
              have NR := hid (show IB (wr.setCell ⟨w.heap.size + 1, k, none⟩ (.int .i64 (s + x * y))) (w.heap.size + 1) 69 (corR l k (m + 1)) from by rw [← HSet.out, ST.out]; exact IB.set_ HRr.out k _)
              have NI := hid (Blk.far HI.out (p := ⟨w.heap.size + 1, k, none⟩) (by show w.heap.size ≠ w.heap.size + 1; omega) (.int .i64 (s + x * y)))
              have NW := hid (Blk.far HW.out (p := ⟨w.heap.size + 1, k, none⟩) (by show w.heap.size + 1 + 1 ≠ w.heap.size + 1; omega) (.int .i64 (s + x * y)))
              have NB := hid (HB.out.setCell (p := ⟨w.heap.size + 1, k, none⟩) (by show w.heap.size ≤ w.heap.size + 1; omega) (.int .i64 (s + x * y)))
              have HS := hid hs
              have HIM := hid him
              clear pr r1 r2 sr hs him
              go_wp2
              go_region
              clear hw0 hw1 hw2 ck ci cm fk
              go_wp2
              go_roundw
              case rel => exact ⟨i + 1, m + 1, by omega, by have := HIM.out; omega, by go_num, hid (Blk.drew NI.out), hid (Blk.drew NR.out), hid (Blk.drew NW.out), hid NB.out.drew⟩
              case measure => simp [intOf] <;> omega
            · obtain rfl : i = 120 := by omega
              have NR := hid (show IB wr (w.heap.size + 1) 69 (corR l (k + 1) 0) from by rw [← corR_next, show 120 - k = m by omega]; exact HRr.out)
              go_wp2
              go_roundw
              case rel => exact ⟨k + 1, by omega, by go_num, HI, NR, HW, HB⟩
              case measure => simp [intOf] <;> omega
        · obtain rfl : k = 9 := by omega
          have c0 := IB.cell HRr.out 0 (by rw [corR_len]; omega)
          rw [corR_end l (by omega : 0 < 9)] at c0
          have f0 := Blk.frozen HRr.out 0
          have zr := corZ_range G.out
          have ZE := hid (show corZ l = corS l 0 120 + 1 from rfl)
          have hz := ZE.out
          obtain ⟨s, hs⟩ : ∃ s, s = corS l 0 (120 - 0) := ⟨_, rfl⟩
          rw [show (120 : Nat) - 0 = 120 from rfl] at hs
          rw [show (120 : Nat) - 0 = 120 from rfl, ← hs] at c0
          rw [← hs] at hz
          have hzs : s + 1 = corZ l := by omega
          have s1 : 0 ≤ s := by omega
          have s2 : s ≤ 128849018880 := by omega
          have NR := hid (show IB (wo.setCell ⟨w.heap.size + 1, 0, none⟩ (.int .i64 (s + 1))) (w.heap.size + 1) 69 ((corR l 9 0).set 0 (s + 1)) from IB.set_ HRr.out 0 _)
          have NI := hid (Blk.far HI.out (p := ⟨w.heap.size + 1, 0, none⟩) (by show w.heap.size ≠ w.heap.size + 1; omega) (.int .i64 (s + 1)))
          have NB := hid (HB.out.setCell (p := ⟨w.heap.size + 1, 0, none⟩) (by show w.heap.size ≤ w.heap.size + 1; omega) (.int .i64 (s + 1)))
          have HZS := hid hzs
          clear hs hz zr hzs
          go_wp2
          generalize wo.setCell ⟨w.heap.size + 1, 0, none⟩ (.int .i64 (s + 1)) = w2 at NR NI NB ⊢
          obtain ⟨z, hz⟩ : ∃ z, z = s + 1 := ⟨_, rfl⟩
          have z1 : 1 ≤ z := by omega
          have z2 : z ≤ 128849018881 := by omega
          rw [← hz] at NR
          have HZ := hid hz
          have cz := IB.cell NR.out 0 (by rw [List.length_set, corR_len]; omega)
          rw [get_set_same _ _ _ (by rw [corR_len]; omega)] at cz
          clear hz c0 f0
          go_loop [11] (fun nv => ∃ n : Nat, n ≤ 10 ∧ nv = .int .i64 n ∧ Hid (∀ m, m < n → 2147483647 < z / 2 ^ m)) (fun nv => 10 - (intOf nv).toNat)
          case atStart => exact ⟨0, by omega, rfl, hid (fun m hm => by omega)⟩
          case round =>
            obtain ⟨n, hn, rfl, HM⟩ := hrel
            have n0 : (0 : Int) ≤ n := by omega
            have n64 : (n : Int) < 64 := by omega
            have HX6 := hid (fun (h : 2147483647 < z / 2 ^ n) => show n < 7 from by
              refine Classical.byContradiction fun hc => ?_
              have h7 : (2 : Int) ^ 7 ≤ 2 ^ n := by exact_mod_cast Nat.pow_le_pow_right (by decide : 0 < 2) (by omega : 7 ≤ n)
              have h8 : z / 2 ^ n ≤ z / 2 ^ 7 := by
                have h0 : (0 : Int) < 2 ^ n := Int.pow_pos (by decide)
                refine Int.le_of_lt_add_one ((Int.ediv_lt_iff_lt_mul h0).2 ?_)
                have := Int.lt_ediv_add_one_mul_self z (show (0 : Int) < 2 ^ 7 by decide)
                have h9 : (0 : Int) ≤ z / 2 ^ 7 + 1 := by have := Int.ediv_nonneg (show 0 ≤ z by omega) (show (0 : Int) ≤ 2 ^ 7 by decide); omega
                exact Int.lt_of_lt_of_le this (Int.mul_le_mul_of_nonneg_left h7 h9)
              have h10 : z / 2 ^ 7 ≤ 128849018881 / 2 ^ 7 := Int.ediv_le_ediv (by decide) z2
              have h11 : (128849018881 : Int) / 2 ^ 7 = 1006632960 := by decide
              omega)
            go_wp2
            · rename_i hgt
              have hn7 := HX6.out hgt
              refine ⟨⟨n + 1, by omega, by go_num, hid fun m hm => ?_⟩, ?_⟩
              · by_cases e : m = n
                · subst e; exact hgt
                · exact HM.out m (by omega)
              · simp [intOf] <;> omega
            · have hle : z / 2 ^ n ≤ 2147483647 := by assumption
              by_cases hn0 : n = 0
              · subst hn0
                have z31 : z ≤ 2147483647 := by simpa using hle
                clear hle HX6 HM
                go_loop [11] (fun nv => ∃ m : Nat, nv = .int .i64 (-(m : Int)) ∧ Hid (∀ j, j < m → z * 2 ^ j < 1073741824)) (fun nv => (40 + intOf nv).toNat)
                case atStart => exact ⟨0, rfl, hid (fun j hj => by omega)⟩
                case round =>
                  obtain ⟨m, rfl, HJ⟩ := hrel
                  have hb : z * 2 ^ m < 2147483648 := by
                    by_cases e : m = 0
                    · subst e; simpa using (by omega : z < 2147483648)
                    · obtain ⟨q, rfl⟩ : ∃ q, m = q + 1 := ⟨m - 1, by omega⟩
                      have := HJ.out q (by omega)
                      rw [Int.pow_succ, ← Int.mul_assoc]
                      omega
                  have hb0 : 1 ≤ z * 2 ^ m := by
                    have h0 : (0 : Int) < 2 ^ m := Int.pow_pos (by decide)
                    have := Int.mul_pos (show 0 < z by omega) h0
                    omega
                  have hm31 : m < 32 := by
                    refine Classical.byContradiction fun hc => ?_
                    have h7 : (2 : Int) ^ 32 ≤ 2 ^ m := by exact_mod_cast Nat.pow_le_pow_right (by decide : 0 < 2) (by omega : 32 ≤ m)
                    have h8 : (2 : Int) ^ m ≤ z * 2 ^ m := by
                      have := Int.mul_le_mul_of_nonneg_right (show 1 ≤ z by omega) (show (0 : Int) ≤ 2 ^ m from Int.le_of_lt (Int.pow_pos (by decide)))
                      rwa [Int.one_mul] at this
                    have h9 : (2 : Int) ^ 32 = 4294967296 := by decide
                    omega
                  have m0 : (0 : Int) ≤ m := by omega
                  have m64 : (m : Int) < 64 := by omega
                  have hneg : decide (-(m : Int) ≤ 0) = true := by simp <;> omega
                  go_wp2
                  · have hlt30 : z * 2 ^ m < 1073741824 := by assumption
                    refine ⟨⟨m + 1, by push_cast; congr 1; omega, hid fun j hj => ?_⟩, ?_⟩
                    · by_cases e : j = m
                      · subst e; exact hlt30
                      · exact HJ.out j (by omega)
                    · simp [intOf] <;> omega
                  · have hge30 : 1073741824 ≤ z * 2 ^ m := by assumption
                    have RF := hid (show IB w2 (w.heap.size + 1) 69 (corF l (fun x => x * 2 ^ m) 0) from by
                      rw [← corF_zero]
                      have e : z = corZ l := by have := HZ.out; have := HZS.out; omega
                      rw [← e]; exact NR.out)
                    have WF := hid (Blk.far HW.out (p := ⟨w.heap.size + 1, 0, none⟩) (by show w.heap.size + 1 + 1 ≠ w.heap.size + 1; omega) (.int .i64 (s + 1)))
                    clear cz
                    go_wp2
                    go_loopw [85] (fun kv wr => ∃ k : Nat, k ≤ 9 ∧ kv = .int .i64 k ∧ Hid (IB wr w.heap.size 69 Z9) ∧ Hid (IB wr (w.heap.size + 1) 69 (corF l (fun x => x * 2 ^ m) k)) ∧ Hid (Below w.heap.size w wr)) (fun kv _ => 9 - (intOf kv).toNat)
                    case atStart => exact ⟨0, by omega, rfl, NI, RF, NB⟩
                    case round =>
                      clear RF NI NB WF
                      obtain ⟨k, hk, rfl, HI, HF, HB⟩ := hrel
                      by_cases hlk : k < 9
                      · have ck := IB.cell HF.out k (by rw [corF_len]; exact hlk)
                        rw [corF_at l _ hlk] at ck
                        have fk := Blk.frozen HF.out k
                        have HSet := hid (corF_set l (fun x => x * 2 ^ m) hlk)
                        have xr := corX_le l hlk
                        have zr := corZ_range G.out
                        generalize corX l k = x at *
                        have k0 : (0 : Int) ≤ k := by omega
                        have k9 : (k : Int) < 9 := by omega
                        have yb : -2147483648 ≤ x * 2 ^ m ∧ x * 2 ^ m ≤ 2147483648 := by
                          have d1 : (0 : Int) ≤ 2 ^ m := Int.le_of_lt (Int.pow_pos (by decide))
                          have ez : z = corZ l := by have := HZ.out; have := HZS.out; omega
                          generalize (2 : Int) ^ m = dd at *
                          have m1 : x * dd ≤ z * dd := Int.mul_le_mul_of_nonneg_right (by omega) d1
                          have m2 : -z * dd ≤ x * dd := Int.mul_le_mul_of_nonneg_right (by omega) d1
                          rw [Int.neg_mul] at m2
                          omega
                        have hwx : IntKind.i64.wrap (x * 2 ^ m) = x * 2 ^ m := by rw [IntKind.wrap_i64]; omega
                        have hsg : decide (0 < -(m : Int)) = false := by simp <;> omega
                        have R3 := hid (show IB (wr.setCell ⟨w.heap.size + 1, k, none⟩ (.int .i64 (x * 2 ^ m))) (w.heap.size + 1) 69 ((corF l (fun x => x * 2 ^ m) k).set k (x * 2 ^ m)) from IB.set_ HF.out k _)
                        have I3 := hid (Blk.far HI.out (p := ⟨w.heap.size + 1, k, none⟩) (by show w.heap.size ≠ w.heap.size + 1; omega) (.int .i64 (x * 2 ^ m)))
                        have B3 := hid (HB.out.setCell (p := ⟨w.heap.size + 1, k, none⟩) (by show w.heap.size ≤ w.heap.size + 1; omega) (.int .i64 (x * 2 ^ m)))
                        go_wp2
                        generalize wr.setCell ⟨w.heap.size + 1, k, none⟩ (.int .i64 (x * 2 ^ m)) = w3 at R3 I3 B3 ⊢
                        have c3 := IB.cell R3.out k (by rw [List.length_set, corF_len]; exact hlk)
                        rw [get_set_same _ _ _ (by rw [corF_len]; exact hlk)] at c3
                        have f3 := Blk.frozen R3.out k
                        have R4 := hid (fun v => IB.set_ R3.out k v)
                        have HQ := hid (show corQ (x * 2 ^ m) k = x * 2 ^ m - x * 2 ^ m * k * k / 8192 from rfl)
                        generalize x * 2 ^ m = y at *
                        have q1 := mul_bound (x := y) (X := 128849018881) (y := (k : Int)) (Y := 8) (by omega) (by omega) ⟨by omega, by omega⟩ ⟨by omega, by omega⟩
                        have q2 := mul_bound (x := y * k) (X := 1030792151048) (y := (k : Int)) (Y := 8) (by omega) (by omega) ⟨by omega, by omega⟩ ⟨by omega, by omega⟩
                        have hw1 : IntKind.i64.wrap (y * k) = y * k := by rw [IntKind.wrap_i64]; omega
                        have hw2 : IntKind.i64.wrap (y * k * k) = y * k * k := by rw [IntKind.wrap_i64]; omega
                        have hw3 : IntKind.i64.wrap (y - y * k * k / 8192) = y - y * k * k / 8192 := by rw [IntKind.wrap_i64]; omega
                        have R5 := hid (show IB (w3.setCell ⟨w.heap.size + 1, k, none⟩ (.int .i64 (y - y * k * k / 8192))) (w.heap.size + 1) 69 (corF l (fun x => x * 2 ^ m) (k + 1)) from by
                          have := R4.out (y - y * k * k / 8192)
                          rw [List.set_set, ← HQ.out, HSet.out] at this
                          rw [← HQ.out]
                          exact this)
                        have I5 := hid (Blk.far I3.out (p := ⟨w.heap.size + 1, k, none⟩) (by show w.heap.size ≠ w.heap.size + 1; omega) (.int .i64 (y - y * k * k / 8192)))
                        have B5 := hid (B3.out.setCell (p := ⟨w.heap.size + 1, k, none⟩) (by show w.heap.size ≤ w.heap.size + 1; omega) (.int .i64 (y - y * k * k / 8192)))
                        clear q1 q2 yb xr zr ck fk
                        go_region
                        clear hw1 hw2 hw3 c3 f3
                        go_wp2
                        go_roundw
                        case rel => exact ⟨k + 1, by omega, by go_num, hid (Blk.drew I5.out), hid (Blk.drew R5.out), hid B5.out.drew⟩
                        case measure => simp [intOf] <;> omega
                      · obtain rfl : k = 9 := by omega
                        have LF := hid (corF_len l (fun x => x * 2 ^ m) 9)
                        have RE := hid (IB.setRow HI.out (corF l (fun x => x * 2 ^ m) 9))
                        have BE := hid (below_setRow HB.out (Nat.le_refl _) (agi (corF l (fun x => x * 2 ^ m) 9)))
                        have EZ := hid (show z = corZ l by have := HZ.out; have := HZS.out; omega)
                        go_wp2_with (first
                          | (refine wpList_loadI rfl 69 (.tmp 5) rfl _ 69 (corF l (fun x => x * 2 ^ m) 9) 9 _ rfl HF.out Tryd.underlying69 rfl size9c LF.out ?_)
                          | (refine wpList_storeI rfl 69 (.tmp 2) (.tmp 119) rfl _ 69 Z9 (corF l (fun x => x * 2 ^ m) 9) 9 rfl rfl HI.out size9c rfl LF.out ?_))
                        refine bodyPost_ret (v := _) (hR _ _ _ 69 (corF l (fun x => x * 2 ^ m) 9) _ 9 rfl RE.out Tryd.underlying69 rfl size9c LF.out) rfl ?_
                        exact ⟨fun x => x * 2 ^ m, -(m : Int), rfl, BE.out, .inr ⟨m, rfl, rfl, by rw [← EZ.out]; exact z31, by rw [← EZ.out]; exact hge30, by rw [← EZ.out]; exact HJ.out⟩⟩
              · have hd : decide ((n : Int) ≤ 0) = false := by simp; omega
                have hd2 : decide (0 < (n : Int)) = true := by simp; omega
                have RF := hid (show IB w2 (w.heap.size + 1) 69 (corF l (fun x => x / 2 ^ n) 0) from by
                  rw [← corF_zero]
                  have e : z = corZ l := by have := HZ.out; have := HZS.out; omega
                  rw [← e]; exact NR.out)
                have WF := hid (Blk.far HW.out (p := ⟨w.heap.size + 1, 0, none⟩) (by show w.heap.size + 1 + 1 ≠ w.heap.size + 1; omega) (.int .i64 (s + 1)))
                have HLE := hid hle
                have HM2 := hid (HM.out (n - 1) (by omega))
                clear hle HX6 HM cz
                refine wp_loop_rounds 1 ?_
                rw [rounds_succ]
                go_wp2
                go_loopw [85] (fun kv wr => ∃ k : Nat, k ≤ 9 ∧ kv = .int .i64 k ∧ Hid (IB wr w.heap.size 69 Z9) ∧ Hid (IB wr (w.heap.size + 1) 69 (corF l (fun x => x / 2 ^ n) k)) ∧ Hid (Below w.heap.size w wr)) (fun kv _ => 9 - (intOf kv).toNat)
                case atStart => exact ⟨0, by omega, rfl, NI, RF, NB⟩
                case round =>
                  clear RF NI NB WF
                  obtain ⟨k, hk, rfl, HI, HF, HB⟩ := hrel
                  by_cases hlk : k < 9
                  · have ck := IB.cell HF.out k (by rw [corF_len]; exact hlk)
                    rw [corF_at l _ hlk] at ck
                    have fk := Blk.frozen HF.out k
                    have HSet := hid (corF_set l (fun x => x / 2 ^ n) hlk)
                    have xr := corX_le l hlk
                    have zr := corZ_range G.out
                    generalize corX l k = x at *
                    have k0 : (0 : Int) ≤ k := by omega
                    have k9 : (k : Int) < 9 := by omega
                    have yb : -128849018881 ≤ x / 2 ^ n ∧ x / 2 ^ n ≤ 128849018881 := by
                      have d1 : (1 : Int) ≤ 2 ^ n := Int.pow_pos (by decide)
                      generalize (2 : Int) ^ n = dd at *
                      have m1 : 128849018881 * 1 ≤ 128849018881 * dd := Int.mul_le_mul_of_nonneg_left d1 (by decide)
                      exact ⟨Int.le_ediv_of_mul_le (by omega) (by rw [Int.neg_mul]; omega), Int.ediv_le_of_le_mul (by omega) (by omega)⟩
                    have R3 := hid (show IB (wr.setCell ⟨w.heap.size + 1, k, none⟩ (.int .i64 (x / 2 ^ n))) (w.heap.size + 1) 69 ((corF l (fun x => x / 2 ^ n) k).set k (x / 2 ^ n)) from IB.set_ HF.out k _)
                    have I3 := hid (Blk.far HI.out (p := ⟨w.heap.size + 1, k, none⟩) (by show w.heap.size ≠ w.heap.size + 1; omega) (.int .i64 (x / 2 ^ n)))
                    have B3 := hid (HB.out.setCell (p := ⟨w.heap.size + 1, k, none⟩) (by show w.heap.size ≤ w.heap.size + 1; omega) (.int .i64 (x / 2 ^ n)))
                    have n0 : (0 : Int) ≤ n := by omega
                    go_wp2
                    generalize wr.setCell ⟨w.heap.size + 1, k, none⟩ (.int .i64 (x / 2 ^ n)) = w3 at R3 I3 B3 ⊢
                    have c3 := IB.cell R3.out k (by rw [List.length_set, corF_len]; exact hlk)
                    rw [get_set_same _ _ _ (by rw [corF_len]; exact hlk)] at c3
                    have f3 := Blk.frozen R3.out k
                    have R4 := hid (fun v => IB.set_ R3.out k v)
                    have HQ := hid (show corQ (x / 2 ^ n) k = x / 2 ^ n - x / 2 ^ n * k * k / 8192 from rfl)
                    generalize x / 2 ^ n = y at *
                    have q1 := mul_bound (x := y) (X := 128849018881) (y := (k : Int)) (Y := 8) (by omega) (by omega) ⟨by omega, by omega⟩ ⟨by omega, by omega⟩
                    have q2 := mul_bound (x := y * k) (X := 1030792151048) (y := (k : Int)) (Y := 8) (by omega) (by omega) ⟨by omega, by omega⟩ ⟨by omega, by omega⟩
                    have hw1 : IntKind.i64.wrap (y * k) = y * k := by rw [IntKind.wrap_i64]; omega
                    have hw2 : IntKind.i64.wrap (y * k * k) = y * k * k := by rw [IntKind.wrap_i64]; omega
                    have hw3 : IntKind.i64.wrap (y - y * k * k / 8192) = y - y * k * k / 8192 := by rw [IntKind.wrap_i64]; omega
                    have R5 := hid (show IB (w3.setCell ⟨w.heap.size + 1, k, none⟩ (.int .i64 (y - y * k * k / 8192))) (w.heap.size + 1) 69 (corF l (fun x => x / 2 ^ n) (k + 1)) from by
                      have := R4.out (y - y * k * k / 8192)
                      rw [List.set_set, ← HQ.out, HSet.out] at this
                      rw [← HQ.out]
                      exact this)
                    have I5 := hid (Blk.far I3.out (p := ⟨w.heap.size + 1, k, none⟩) (by show w.heap.size ≠ w.heap.size + 1; omega) (.int .i64 (y - y * k * k / 8192)))
                    have B5 := hid (B3.out.setCell (p := ⟨w.heap.size + 1, k, none⟩) (by show w.heap.size ≤ w.heap.size + 1; omega) (.int .i64 (y - y * k * k / 8192)))
                    clear q1 q2 yb xr zr ck fk
                    go_region
                    clear hw1 hw2 hw3 c3 f3
                    go_wp2
                    go_roundw
                    case rel => exact ⟨k + 1, by omega, by go_num, hid (Blk.drew I5.out), hid (Blk.drew R5.out), hid B5.out.drew⟩
                    case measure => simp [intOf] <;> omega
                  · obtain rfl : k = 9 := by omega
                    have LF := hid (corF_len l (fun x => x / 2 ^ n) 9)
                    have RE := hid (IB.setRow HI.out (corF l (fun x => x / 2 ^ n) 9))
                    have BE := hid (below_setRow HB.out (Nat.le_refl _) (agi (corF l (fun x => x / 2 ^ n) 9)))
                    have EZ := hid (show z = corZ l by have := HZ.out; have := HZS.out; omega)
                    go_wp2_with (first
                      | (refine wpList_loadI rfl 69 (.tmp 5) rfl _ 69 (corF l (fun x => x / 2 ^ n) 9) 9 _ rfl HF.out Tryd.underlying69 rfl size9c LF.out ?_)
                      | (refine wpList_storeI rfl 69 (.tmp 2) (.tmp 119) rfl _ 69 Z9 (corF l (fun x => x / 2 ^ n) 9) 9 rfl rfl HI.out size9c rfl LF.out ?_))
                    refine bodyPost_ret (v := _) (hR _ _ _ 69 (corF l (fun x => x / 2 ^ n) 9) _ 9 rfl RE.out Tryd.underlying69 rfl size9c LF.out) rfl ?_
                    exact ⟨fun x => x / 2 ^ n, n, rfl, BE.out, .inl ⟨n, rfl, by omega, rfl, by rw [← EZ.out]; exact HLE.out, by rw [← EZ.out]; exact HM2.out⟩⟩
/-- What Correlate answers where it fails. -/
def CorBad (w : World) (er : Int) (e : Ending) (w' : World) : Prop := e = .returned (.tuple #[.agg (agi Z9), .int .i64 0, .int .i64 er]) ∧ Below w.heap.size w w'
set_option maxHeartbeats 2000000 in
theorem correlate_len (A : Option Addr) (c n : Nat) (w : World) (hn : n ≠ 120) : Calls Tryd.prog 25 #[.slice A n c] w (CorBad w 1) := by
  have hR := results_row3 (fn := Tryd.f25) (p := 2) (q := 3) (r := 4) (ty := 69) rfl
  have B0 := ((Below.refl w.heap.size w).alloc (Nat.le_refl _) (.cells (agi Z9) 69)).alloc (by simp) (.cells (agi Z9) 69)
  have I0 := Blk.alloc (IB.new w 69 Z9) (.cells (agi Z9) 69)
  have R0 := IB.new (w.alloc (.cells (agi Z9) 69)) 69 Z9
  simp only [World.size_alloc] at R0
  have RE := hid (IB.setRow I0 Z9)
  have BE := hid (below_setRow B0 (Nat.le_refl _) (agi Z9))
  have I0 := hid (show IB ((w.alloc (.cells (agi Z9) 69)).alloc (.cells (agi Z9) 69)) w.heap.size 69 Z9 from I0)
  have R0 := hid R0
  have d0 : ((n : Int) != 120) = true := by simp; omega
  have d1 : ¬ (n : Int) = 120 := by omega
  clear hn
  go_enter Tryd.func25, Tryd.ntmps25
  go_wp2_with (first
    | (refine wpList_loadI rfl 69 (.tmp 5) rfl _ 69 Z9 9 _ rfl R0.out Tryd.underlying69 rfl size9c rfl ?_)
    | (refine wpList_storeI rfl 69 (.tmp 2) (.tmp 16) rfl _ 69 Z9 Z9 9 rfl rfl I0.out size9c rfl rfl ?_))
  refine bodyPost_ret (v := _) (hR _ _ _ 69 Z9 _ 9 rfl RE.out Tryd.underlying69 rfl size9c rfl) rfl ?_
  exact ⟨rfl, BE.out⟩
set_option maxHeartbeats 2000000 in
theorem correlate_not (A : Option Addr) (c : Nat) (l : List Int) (w : World) (hr : Rs w w.heap.size A l) (hn : l.length = 120) (g : all16 l = false) : Calls Tryd.prog 25 #[.slice A 120 c] w (CorBad w 2) := by
  have KR := hid (fun (W : World) (h : Rs W W.heap.size A l) => frontright_any A c 120 W.heap.size l W h hn (by omega))
  rw [g] at KR
  have HR := hid hr
  have hR := results_row3 (fn := Tryd.f25) (p := 2) (q := 3) (r := 4) (ty := 69) rfl
  have B0 := ((Below.refl w.heap.size w).alloc (Nat.le_refl _) (.cells (agi Z9) 69)).alloc (by simp) (.cells (agi Z9) 69)
  have I0 := Blk.alloc (IB.new w 69 Z9) (.cells (agi Z9) 69)
  have R0 := IB.new (w.alloc (.cells (agi Z9) 69)) 69 Z9
  simp only [World.size_alloc] at R0
  have RE := hid (IB.setRow I0 Z9)
  have BE := hid (below_setRow B0 (Nat.le_refl _) (agi Z9))
  have I0 := hid (show IB ((w.alloc (.cells (agi Z9) 69)).alloc (.cells (agi Z9) 69)) w.heap.size 69 Z9 from I0)
  have R0 := hid R0
  clear hr hn g
  go_enter Tryd.func25, Tryd.ntmps25
  go_wp2_with fail
  refine (KR.out _ ((HR.out.below B0).more B0.size)).mono ?_
  rintro e w1 ⟨rfl, rfl⟩
  clear B0
  go_wp2_with (first
    | (refine wpList_loadI rfl 69 (.tmp 5) rfl _ 69 Z9 9 _ rfl R0.out Tryd.underlying69 rfl size9c rfl ?_)
    | (refine wpList_storeI rfl 69 (.tmp 2) (.tmp 20) rfl _ 69 Z9 Z9 9 rfl rfl I0.out size9c rfl rfl ?_))
  refine bodyPost_ret (v := _) (hR _ _ _ 69 Z9 _ 9 rfl RE.out Tryd.underlying69 rfl size9c rfl) rfl ?_
  exact ⟨rfl, BE.out⟩
end Go.Proofs.YthoiikkjjaldnaaDoor
