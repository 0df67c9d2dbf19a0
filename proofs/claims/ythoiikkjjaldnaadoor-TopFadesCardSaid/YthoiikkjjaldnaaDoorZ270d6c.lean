/- Texts that the law rests on, laid together: TopW. -/
import Derived.Test.YthoiikkjjaldnaaDoorZ9c2894
import Derived.Test.YthoiikkjjaldnaaDoorZ04c3ca
/- Small functions of the laws of the whole: a number counted round, a frame of samples, two lists compared, the first session. -/
namespace Go.Proofs.YthoiikkjjaldnaaDoor
set_option linter.unusedVariables false
set_option linter.unusedSimpArgs false
set_option maxRecDepth 100000
open Go.RowKit

theorem tmod_two {v n : Int} (hn : 0 < n) : v.tmod n = v % n ∨ v.tmod n = v % n - n := by
  rw [Int.tmod_eq_emod]
  split
  · left; omega
  · right; omega
theorem spot_tmod {v n : Int} (hn : 0 < n) : (if v.tmod n < 0 then v.tmod n + n else v.tmod n) = v % n := by
  have h0 := Int.emod_nonneg v (show n ≠ 0 by omega)
  have h1 := Int.emod_lt_of_pos v hn
  rcases tmod_two (v := v) hn with h | h
  · rw [h, if_neg (by omega)]
  · rw [h, if_pos (by omega)]; omega
theorem tmod_range {v n : Int} (hn : 0 < n) : -n ≤ v.tmod n ∧ v.tmod n < n := by
  have h0 := Int.emod_nonneg v (show n ≠ 0 by omega)
  have h1 := Int.emod_lt_of_pos v hn
  rcases tmod_two (v := v) hn with h | h <;> omega
set_option maxHeartbeats 1000000 in
theorem spot_any (v n : Int) (w : World) (hn : 0 < n) (hb : n ≤ 4294967296) :
    Calls Tryd.prog 21 #[.int .i64 v, .int .i64 n] w fun e w' => e = .returned (.int .i64 (v % n)) ∧ w = w' := by
  have S := hid (spot_tmod (v := v) hn)
  have hr := tmod_range (v := v) hn
  have hn0 : n ≠ 0 := by omega
  have hnb : (n == 0) = false := by simpa using hn0
  have hw0 : IntKind.i64.wrap (v.tmod n) = v.tmod n := by rw [IntKind.wrap_i64]; omega
  have hw1 : IntKind.i64.wrap (v.tmod n + n) = v.tmod n + n := by rw [IntKind.wrap_i64]; omega
  by_cases hs : v.tmod n < 0
  · have S2 := hid (show v.tmod n + n = v % n from by rw [← S.out, if_pos hs])
    clear S
    go_enter Tryd.func21, Tryd.ntmps21
    go_wp2
    go_ret
    exact ⟨by rw [← S2.out]; rfl, rfl⟩
  · have S2 := hid (show v.tmod n = v % n from by rw [← S.out, if_neg hs])
    clear S
    go_enter Tryd.func21, Tryd.ntmps21
    go_wp2
    go_ret
    exact ⟨by rw [← S2.out]; rfl, rfl⟩
/-- A frame of samples of 16 bits. -/
def frE1 (l : List Int) (i : Nat) : Int := if i < l.length then l.getD i 0 % 65536 - 32768 else 0
def frL (l : List Int) : List Int := (List.range 80).map (frE1 l)
theorem frL_len (l : List Int) : (frL l).length = 80 := by simp [frL]
theorem frE1_rng (l : List Int) (i : Nat) : -32768 ≤ frE1 l i ∧ frE1 l i ≤ 32767 := by
  unfold frE1
  split
  · omega
  · omega
theorem frL_in (l : List Int) : all16 (frL l) = true := all16_iff.2 fun x hx => by
  unfold frL at hx
  obtain ⟨i, _, rfl⟩ := List.mem_map.1 hx
  exact frE1_rng l i
/-- Ahead of round k. -/
def FrS (l ys : List Int) (k : Nat) : Prop := ys.length = 80 ∧ ∀ j, ys.getD j 0 = if j < k then frE1 l j else 0
theorem FrS.start (l : List Int) : FrS l (List.replicate 80 0) 0 := ⟨by simp, fun j => by
  rw [if_neg (by omega), List.getD_eq_getElem?_getD, List.getElem?_replicate]
  split <;> rfl⟩
theorem FrS.next {l ys : List Int} {k : Nat} (h : FrS l ys k) (hk : k < 80) : FrS l (ys.set k (frE1 l k)) (k + 1) := ⟨by simpa using h.1, fun j => by
  by_cases e : k = j
  · subst e
    rw [get_set_same _ _ _ (by rw [h.1]; omega), if_pos (by omega)]
  · rw [get_set_other _ _ e, h.2 j]
    by_cases h1 : j < k
    · rw [if_pos h1, if_pos (by omega)]
    · rw [if_neg h1, if_neg (by omega)]⟩
theorem FrS.done {l ys : List Int} {k : Nat} (h : FrS l ys k) (hk : k ≤ 80) (he : k = 80 ∨ l.length ≤ k) : ys = frL l := by
  refine list_ext (by rw [h.1, frL_len]) fun j hj => ?_
  rw [h.1] at hj
  unfold frL
  rw [map_range_get _ hj, h.2 j]
  by_cases h1 : j < k
  · rw [if_pos h1]
  · rw [if_neg h1]
    unfold frE1
    rw [if_neg (by omega)]
set_option maxHeartbeats 2000000 in
theorem topframe_any (A : Option Addr) (c n : Nat) (l : List Int) (w : World) (hr : Rs w w.heap.size A l) (hn : l.length = n) (_hl : n ≤ 9223372036854775807) :
    Calls Tryd.prog 11 #[.slice A n c] w (fun e w' => ∃ A2 c2, e = .returned (.slice A2 80 c2) ∧ Own w' w.heap.size A2 c2 (frL l) ∧ Below w.heap.size w w') := by
  have HX := hid hr
  have HN := hid hn
  have KS := hid (fun v W => spot_any v 65536 W (by omega) (by omega))
  clear hr hn
  go_enter Tryd.func11, Tryd.ntmps11
  go_wp2_with (at_make; refine wpList_makeI rfl _ _ rfl .i64 .i64 80 rfl rfl w.heap.size (by omega) (Nat.le_refl _) ?_; intro w1 hO hG; have O1 := hid hO; have B1 := hid ((Below.refl w.heap.size w).grown hG (Nat.le_refl _) (by simp)); clear hO hG)
  go_loopw [4] (fun iv wr => ∃ (k : Nat) (ys : List Int), k ≤ 80 ∧ iv = .int .i64 k ∧ Hid (k ≤ n) ∧ Hid (FrS l ys k) ∧ Hid (Own wr w.heap.size (some ⟨w.heap.size, 0, none⟩) 80 ys) ∧ Hid (Below w.heap.size w wr)) (fun iv _ => 80 - (intOf iv).toNat)
  case atStart => exact ⟨0, _, by omega, rfl, hid (Nat.zero_le _), hid (FrS.start l), O1, B1⟩
  case round =>
    clear O1 B1
    obtain ⟨k, ys, hk, rfl, HKN, HY, HO, HB⟩ := hrel
    have hkn := HKN.out
    by_cases hlt : k < 80
    · by_cases hln : k < n
      · obtain ⟨ad, rfl, hadb, k0⟩ := (HX.out.below HB.out).at_ (k := k) (by rw [HN.out]; exact hln)
        have cp := HO.out.cell k (by rw [HY.out.1]; exact hlt)
        have fp := HO.out.frozen k
        have NE := hid (show l.getD k 0 % 65536 - 32768 = frE1 l k from by unfold frE1; rw [if_pos (by rw [HN.out]; exact hln)])
        have NO := hid (HO.out.set_ k (by rw [HY.out.1]; exact hlt) (l.getD k 0 % 65536 - 32768))
        have NB := hid (HB.out.setCell (p := ⟨w.heap.size, k, none⟩) (Nat.le_refl _) (.int .i64 (l.getD k 0 % 65536 - 32768)))
        have NY := hid (HY.out.next hlt)
        rw [← NE.out] at NY
        clear NE
        generalize l.getD k 0 = x at *
        have hx0 := Int.emod_nonneg x (show (65536 : Int) ≠ 0 by omega)
        have hx1 := Int.emod_lt_of_pos x (show (0 : Int) < 65536 by omega)
        have KX := hid (KS.out x)
        generalize x % 65536 = y at *
        have hw1 : IntKind.i64.wrap (y - 32768) = y - 32768 := by rw [IntKind.wrap_i64]; omega
        have hadn : ad.block ≠ w.heap.size := by omega
        have b1 : decide ((k : Int) < 80) = true := by simp; omega
        have b2 : decide ((k : Int) < n) = true := by simp; omega
        go_wp2_with (go_at_call 21; (with_reducible refine (KX.out _).mono ?_); rintro e w' ⟨rfl, rfl⟩)
        go_roundw
        case rel => exact ⟨k + 1, _, by omega, by go_num, hid (by omega), NY, NO, NB⟩
        case measure => simp [intOf] <;> omega
      · have FD := hid (HY.out.done hk (.inr (by rw [HN.out]; omega)))
        have b1 : decide ((k : Int) < 80) = true := by simp; omega
        have b2 : decide ((k : Int) < n) = false := by simp; omega
        go_wp2
        go_ret
        exact ⟨_, _, rfl, by rw [← FD.out]; exact HO.out, HB.out⟩
    · have FD := hid (HY.out.done hk (.inl (by omega)))
      have b1 : decide ((k : Int) < 80) = false := by simp; omega
      go_wp2
      go_ret
      exact ⟨_, _, rfl, by rw [← FD.out]; exact HO.out, HB.out⟩
set_option maxHeartbeats 1000000 in
theorem talks_any (A : Option Addr) (c n : Nat) (w : World) (hc : n ≤ c) :
    Calls Tryd.prog 9 #[.slice A n c] w fun e w' => e = .returned (.slice A (min n 12) c) ∧ w = w' := by
  by_cases h : 12 < n
  · have hm := hid (show min n 12 = 12 by omega)
    have h1 : decide ((12 : Int) < n) = true := by simp; omega
    have h2 : (12 : Int) ≤ c := by omega
    go_enter Tryd.func9, Tryd.ntmps9
    go_wp2
    go_ret
    exact ⟨by rw [hm.out]; rfl, rfl⟩
  · have hm := hid (show min n 12 = n by omega)
    have h1 : decide ((12 : Int) < n) = false := by simp; omega
    go_enter Tryd.func9, Tryd.ntmps9
    go_wp2
    go_ret
    exact ⟨by rw [hm.out]; rfl, rfl⟩
set_option maxHeartbeats 2000000 in
/-- Two lists that are the same. -/
theorem topsame_yes (A A2 : Option Addr) (c c2 n : Nat) (l : List Int) (w : World) (h1 : Rs w w.heap.size A l) (h2 : Rs w w.heap.size A2 l) (hn : l.length = n) (hl : n ≤ 1000) :
    Calls Tryd.prog 13 #[.slice A n c, .slice A2 n c2] w fun e w' => e = .returned (.bool true) ∧ Below w.heap.size w w' := by
  have H1 := hid h1
  have H2 := hid h2
  have HN := hid hn
  clear h1 h2 hn
  go_enter Tryd.func13, Tryd.ntmps13
  go_wp2
  go_loopw [5] (fun iv wr => ∃ k : Nat, k ≤ n ∧ iv = .int .i64 k ∧ Hid (Below w.heap.size w wr)) (fun iv _ => n - (intOf iv).toNat)
  case atStart => exact ⟨0, by omega, rfl, hid (Below.refl _ _)⟩
  case round =>
    obtain ⟨k, hk, rfl, HB⟩ := hrel
    by_cases hlt : k < n
    · obtain ⟨ad, rfl, _, k0⟩ := (H1.out.below HB.out).at_ (k := k) (by rw [HN.out]; exact hlt)
      obtain ⟨ae, rfl, _, k1⟩ := (H2.out.below HB.out).at_ (k := k) (by rw [HN.out]; exact hlt)
      go_wp2_with fail
      go_region
      go_wp2
      go_roundw
      case rel => exact ⟨k + 1, by omega, by go_num, hid HB.out.drew⟩
      case measure => simp [intOf] <;> omega
    · obtain rfl : k = n := by omega
      go_wp2
      go_ret
      exact ⟨rfl, HB.out⟩
set_option maxHeartbeats 1000000 in
theorem begin_any (w : World) : Calls Tryd.prog 7 #[] w fun e w' => e = .returned (.agg enB.ag) ∧ Below w.heap.size w w' := by
  have hR := results_enc1 (fn := Tryd.f7) (p := 0) rfl
  have KF := hid (fun W => fresh_any W)
  have Z0 := hid (newzeroE w)
  have B0 := hid ((Below.refl w.heap.size w).alloc (Nat.le_refl _) (.cells Tryd.zeroCells32 32))
  go_enter Tryd.func7, Tryd.ntmps7
  go_wp2_with fail
  refine (KF.out _).mono ?_
  rintro e w1 ⟨rfl, hB⟩
  have Z1 := hid (Blk.below' Z0.out hB)
  have B1 := hid (B0.out.trans (hB.mono B0.out.size))
  clear hB Z0 B0
  have EO := hid enB_fit.k
  go_wp2_with (refine wpList_storeE rfl (.tmp 0) (.tmp 2) rfl _ zeroEn enB rfl (by kernel_rfl) Z1.out zeroEn_ok EO.out ?_)
  refine bodyPost_ret (v := _) (hR _ _ _ enB rfl (EB.setRow Z1.out enB) EO.out) rfl ?_
  exact ⟨rfl, below_setRow B1.out (by omega) _⟩
end Go.Proofs.YthoiikkjjaldnaaDoor
