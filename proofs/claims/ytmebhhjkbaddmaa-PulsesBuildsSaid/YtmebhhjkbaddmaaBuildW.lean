/- The walks of the places and of the samples of pulses, the program's and the reference's, and of the law PulsesBuilds. -/
import Derived.Test.YtmebhhjkbaddmaaTargW
import Derived.Test.YtmebhhjkbaddmaaBits
namespace Go.Proofs.Ytmebhhjkbaddmaa
set_option linter.unusedVariables false
set_option linter.unusedSimpArgs false
set_option maxRecDepth 100000
open Go.RowKit

def okI (x : Int) : Bool := decide (0 ≤ x ∧ x ≤ 9)
theorem okI_yes {x : Int} (h1 : 0 ≤ x) (h2 : x ≤ 9) : okI x = true := by unfold okI; simp; omega
theorem okI_no {x : Int} (h : x < 0 ∨ 9 < x) : okI x = false := by unfold okI; simp; omega
theorem okI_at {x : Int} (h : okI x = true) : 0 ≤ x ∧ x ≤ 9 := by unfold okI at h; simpa using h
def atB (t p : Int) : Bool := decide (0 ≤ t ∧ t ≤ 3) && okI p
def atV (t p : Int) : Int := if atB t p then t + 4 * p else 0
def AtAns (t p : Int) (w : World) (e : Ending) (w' : World) : Prop := e = .returned (.tuple #[.int .i64 (atV t p), .int .i64 (errOf (atB t p))]) ∧ w = w'
theorem AtAns.bad {t p : Int} {w : World} (h : ¬ ((0 ≤ t ∧ t ≤ 3) ∧ 0 ≤ p ∧ p ≤ 9)) : AtAns t p w (.returned (.tuple #[.int .i64 0, .int .i64 2])) w := by
  have hb : atB t p = false := by unfold atB okI; simp; omega
  exact ⟨by unfold atV; rw [hb]; rfl, rfl⟩
theorem AtAns.good {t p : Int} {w : World} (h : (0 ≤ t ∧ t ≤ 3) ∧ 0 ≤ p ∧ p ≤ 9) : AtAns t p w (.returned (.tuple #[.int .i64 (t + 4 * p), .int .i64 0])) w := by
  have hb : atB t p = true := by unfold atB okI; simp; omega
  exact ⟨by unfold atV; rw [hb]; rfl, rfl⟩

theorem AtAns.comm {t p : Int} {w w' : World} (h : AtAns t p w (.returned (.tuple #[.int .i64 (t + 4 * p), .int .i64 0])) w') : AtAns t p w (.returned (.tuple #[.int .i64 (4 * p + t), .int .i64 0])) w' := by
  rw [Int.add_comm]; exact h
set_option maxHeartbeats 1000000 in
theorem pulsesAt_any (t p : Int) (w : World) : Calls Try.prog 24 #[.int .i64 t, .int .i64 p] w (AtAns t p w) := by
  by_cases h : (0 ≤ t ∧ t ≤ 3) ∧ 0 ≤ p ∧ p ≤ 9
  · have FIN := hid (AtAns.good (w := w) h)
    obtain ⟨⟨h1, h2⟩, h3, h4⟩ := h
    have k1 : ¬ t < 0 := by omega
    have k2 : ¬ 4 ≤ t := by omega
    have k3 : ¬ 3 < t := by omega
    have k4 : ¬ p < 0 := by omega
    have k5 : ¬ 10 ≤ p := by omega
    have k6 : ¬ 9 < p := by omega
    go_enter Try.func24, Try.ntmps24
    go_wp2
    go_ret2
    first | exact FIN.out | (rw [Int.add_comm] at FIN; exact FIN.out) | exact FIN.out.comm
  · have FIN := hid (AtAns.bad (w := w) h)
    by_cases k1 : t < 0
    · clear h
      go_enter Try.func24, Try.ntmps24
      go_wp2
      go_ret2
      exact FIN.out
    by_cases k2 : 3 < t
    · have k3 : 4 ≤ t := by omega
      clear h
      go_enter Try.func24, Try.ntmps24
      go_wp2
      go_ret2
      exact FIN.out
    have k3 : ¬ 4 ≤ t := by omega
    by_cases k4 : p < 0
    · clear h
      go_enter Try.func24, Try.ntmps24
      go_wp2
      go_ret2
      exact FIN.out
    have k5 : 9 < p := by omega
    have k6 : 10 ≤ p := by omega
    clear h
    go_enter Try.func24, Try.ntmps24
    go_wp2
    go_ret2
    exact FIN.out
set_option maxHeartbeats 1000000 in
theorem refAt_any (t p : Int) (w : World) : Calls Try.prog 25 #[.int .i64 t, .int .i64 p] w (AtAns t p w) := by
  by_cases h : (0 ≤ t ∧ t ≤ 3) ∧ 0 ≤ p ∧ p ≤ 9
  · have FIN := hid (AtAns.good (w := w) h)
    obtain ⟨⟨h1, h2⟩, h3, h4⟩ := h
    have k1 : ¬ t < 0 := by omega
    have k2 : ¬ 4 ≤ t := by omega
    have k3 : ¬ 3 < t := by omega
    have k4 : ¬ p < 0 := by omega
    have k5 : ¬ 10 ≤ p := by omega
    have k6 : ¬ 9 < p := by omega
    go_enter Try.func25, Try.ntmps25
    go_wp2
    go_ret2
    first | exact FIN.out | (rw [Int.add_comm] at FIN; exact FIN.out) | exact FIN.out.comm
  · have FIN := hid (AtAns.bad (w := w) h)
    by_cases k1 : t < 0
    · clear h
      go_enter Try.func25, Try.ntmps25
      go_wp2
      go_ret2
      exact FIN.out
    by_cases k2 : 3 < t
    · have k3 : 4 ≤ t := by omega
      clear h
      go_enter Try.func25, Try.ntmps25
      go_wp2
      go_ret2
      exact FIN.out
    have k3 : ¬ 4 ≤ t := by omega
    by_cases k4 : p < 0
    · clear h
      go_enter Try.func25, Try.ntmps25
      go_wp2
      go_ret2
      exact FIN.out
    have k5 : 9 < p := by omega
    have k6 : 10 ≤ p := by omega
    clear h
    go_enter Try.func25, Try.ntmps25
    go_wp2
    go_ret2
    exact FIN.out

/-! The samples of pulses. -/
def blS (signs size : Int) : Bool := decide ((0 ≤ signs ∧ signs ≤ 15) ∧ 0 ≤ size ∧ size ≤ 32767)
def blB (idx : List Int) (signs size : Int) : Bool := blS signs size && idx.all okI
def blE (idx : List Int) (signs size : Int) (j : Nat) : Int := if idx.getD (j % 4) 0 = (j / 4 : Nat) then (if signs / 2 ^ (j % 4) % 2 = 1 then size else -size) else 0
def blL (idx : List Int) (signs size : Int) : List Int := if blB idx signs size then (List.range 40).map (blE idx signs size) else []
theorem blL_le (idx : List Int) (signs size : Int) : (blL idx signs size).length ≤ 40 := by unfold blL; split <;> simp
/-- Behind n tracks. -/
def blN (idx : List Int) (signs size : Int) (n : Nat) : List Int := (List.range 40).map (fun j => if j % 4 < n then blE idx signs size j else 0)
/-- Behind k samples. -/
def blK (idx : List Int) (signs size : Int) (k : Nat) : List Int := (List.range 40).map (fun j => if j < k then blE idx signs size j else 0)
theorem blN_len (idx : List Int) (signs size : Int) (n : Nat) : (blN idx signs size n).length = 40 := by simp [blN]
theorem blK_len (idx : List Int) (signs size : Int) (n : Nat) : (blK idx signs size n).length = 40 := by simp [blK]
theorem blN_zero (idx : List Int) (signs size : Int) : blN idx signs size 0 = List.replicate 40 0 := by
  refine list_ext (by simp [blN_len]) fun j hj => ?_
  rw [blN_len] at hj
  rw [repl_get]; unfold blN; rw [range_get _ hj, if_neg (by omega)]
theorem blK_zero (idx : List Int) (signs size : Int) : blK idx signs size 0 = List.replicate 40 0 := by
  refine list_ext (by simp [blK_len]) fun j hj => ?_
  rw [blK_len] at hj
  rw [repl_get]; unfold blK; rw [range_get _ hj, if_neg (by omega)]
theorem blN_end (idx : List Int) (signs size : Int) : blN idx signs size 4 = (List.range 40).map (blE idx signs size) := by
  refine list_ext (by simp [blN_len]) fun j hj => ?_
  rw [blN_len] at hj
  unfold blN; rw [range_get _ hj, range_get _ hj, if_pos (by omega)]
theorem blK_end (idx : List Int) (signs size : Int) : blK idx signs size 40 = (List.range 40).map (blE idx signs size) := by
  refine list_ext (by simp [blK_len]) fun j hj => ?_
  rw [blK_len] at hj
  unfold blK; rw [range_get _ hj, range_get _ hj, if_pos hj]
theorem blN_set (idx : List Int) (signs size : Int) {n p : Nat} (hn : n < 4) (hp : p < 10) (h : idx.getD n 0 = (p : Nat)) (v : Int) (hv : v = if signs / 2 ^ n % 2 = 1 then size else -size) : (blN idx signs size n).set (n + 4 * p) v = blN idx signs size (n + 1) := by
  refine list_ext (by simp [blN_len]) fun j hj => ?_
  rw [List.length_set, blN_len] at hj
  have hm : (n + 4 * p) % 4 = n := by omega
  have hd : (n + 4 * p) / 4 = p := by omega
  by_cases e : n + 4 * p = j
  · subst e
    rw [get_set_same _ _ _ (by rw [blN_len]; exact hj)]
    unfold blN
    rw [range_get _ hj, if_pos (by omega)]
    unfold blE
    rw [hm, hd, if_pos h, hv]
  · rw [get_set_other _ _ e]
    unfold blN
    rw [range_get _ hj, range_get _ hj]
    by_cases h2 : j % 4 < n
    · rw [if_pos h2, if_pos (by omega)]
    · rw [if_neg h2]
      by_cases h3 : j % 4 = n
      · rw [if_pos (by omega)]
        unfold blE
        rw [h3, h, if_neg (by omega)]
      · rw [if_neg (by omega)]
theorem blK_set (idx : List Int) (signs size : Int) {k : Nat} (hk : k < 40) (v : Int) (hv : v = blE idx signs size k) : (blK idx signs size k).set k v = blK idx signs size (k + 1) := by
  refine list_ext (by simp [blK_len]) fun j hj => ?_
  rw [List.length_set, blK_len] at hj
  by_cases e : k = j
  · subst e
    rw [get_set_same _ _ _ (by rw [blK_len]; exact hj), hv]
    unfold blK
    rw [range_get _ hj, if_pos (by omega)]
  · rw [get_set_other _ _ e]
    unfold blK
    rw [range_get _ hj, range_get _ hj]
    by_cases h2 : j < k
    · rw [if_pos h2, if_pos (by omega)]
    · rw [if_neg h2, if_neg (by omega)]
theorem blK_none (idx : List Int) (signs size : Int) {k : Nat} (h : blE idx signs size k = 0) : blK idx signs size (k + 1) = blK idx signs size k := by
  refine list_ext (by simp [blK_len]) fun j hj => ?_
  rw [blK_len] at hj
  unfold blK
  rw [range_get _ hj, range_get _ hj]
  by_cases e : j = k
  · subst e; rw [if_pos (by omega), if_neg (by omega), h]
  · by_cases h2 : j < k
    · rw [if_pos h2, if_pos (by omega)]
    · rw [if_neg h2, if_neg (by omega)]
theorem bl_bad {idx : List Int} {signs size : Int} {w w' : World} (hb : blB idx signs size = false) (hB : Below w.heap.size w w') : NewSE w (blL idx signs size) (errOf (blB idx signs size)) (.returned (.tuple #[.slice none 0 0, .int .i64 2])) w' := by
  rw [show blL idx signs size = [] by unfold blL; rw [hb]; rfl, hb]
  exact NewSE.none_ hB
theorem bl_good {idx : List Int} {signs size : Int} {w w' : World} {A : Option Addr} {c : Nat} (hb : blB idx signs size = true) (hO : Own w' w.heap.size A c ((List.range 40).map (blE idx signs size))) (hB : Below w.heap.size w w') : NewSE w (blL idx signs size) (errOf (blB idx signs size)) (.returned (.tuple #[.slice A 40 c, .int .i64 0])) w' := by
  rw [show blL idx signs size = (List.range 40).map (blE idx signs size) by unfold blL; rw [hb]; rfl, hb]
  exact ⟨A, c, by simp; rfl, hO, hB⟩

set_option maxHeartbeats 4000000 in
theorem pulsesBuild_any (idx : List Int) (signs size : Int) (w : World) (hl : idx.length = 4) (hs1 : -9223372036854775808 ≤ size) (hs2 : size ≤ 9223372036854775807) :
    Calls Try.prog 26 #[.agg (agi idx), .int .i64 signs, .int .i64 size] w (NewSE w (blL idx signs size) (errOf (blB idx signs size))) := by
  have BA := hid ((Below.refl w.heap.size w).alloc (Nat.le_refl _) (.cells (agi idx) 36))
  have KS := hid (fun W => pulsessat_any size W)
  by_cases h : (0 ≤ signs ∧ signs ≤ 15) ∧ 0 ≤ size ∧ size ≤ 32767
  rotate_left
  · have FB := hid (fun w' (hB : Below w.heap.size w w') => bl_bad (idx := idx) (signs := signs) (size := size) (w := w) (w' := w') (by unfold blB blS; simp [h]) hB)
    by_cases k1 : signs < 0
    · clear h
      go_enter Try.func26, Try.ntmps26
      go_wp2_with (go_at_call 62; (with_reducible refine (KS.out _).mono ?_); rintro e w' ⟨rfl, rfl⟩)
      go_ret2
      exact FB.out _ BA.out
    by_cases k2 : 15 < signs
    · have k3 : 16 ≤ signs := by omega
      clear h
      go_enter Try.func26, Try.ntmps26
      go_wp2_with (go_at_call 62; (with_reducible refine (KS.out _).mono ?_); rintro e w' ⟨rfl, rfl⟩)
      go_ret2
      exact FB.out _ BA.out
    have k3 : ¬ 16 ≤ signs := by omega
    by_cases k4 : size < -32768 ∨ 32767 < size
    · have e2 : (size != s16 size) = true := by rw [bne_iff_ne]; exact fun h => s16_ne k4 h.symm
      have e1 : (size == s16 size) = false := by rw [beq_eq_false_iff_ne]; exact fun h => s16_ne k4 h.symm
      clear h k4
      go_enter Try.func26, Try.ntmps26
      go_wp2_with (go_at_call 62; (with_reducible refine (KS.out _).mono ?_); rintro e w' ⟨rfl, rfl⟩)
      go_ret2
      exact FB.out _ BA.out
    have k5 : size < 0 := by omega
    have e3 := s16_id (x := size) (by omega) (by omega)
    rw [e3] at KS
    clear h k4 e3
    go_enter Try.func26, Try.ntmps26
    go_wp2_with (go_at_call 62; (with_reducible refine (KS.out _).mono ?_); rintro e w' ⟨rfl, rfl⟩)
    go_ret2
    exact FB.out _ BA.out
  obtain ⟨⟨g1, g2⟩, z1, z2⟩ := h
  have hS : blS signs size = true := by unfold blS; simp; omega
  have FB := hid (fun w' (h : idx.all okI = false) (hB : Below w.heap.size w w') => bl_bad (idx := idx) (signs := signs) (size := size) (w := w) (w' := w') (by unfold blB; rw [h]; simp) hB)
  have FG := hid (fun w' A c (h : idx.all okI = true) (hO : Own w' w.heap.size A c ((List.range 40).map (blE idx signs size))) (hB : Below w.heap.size w w') => bl_good (idx := idx) (signs := signs) (size := size) (w := w) (w' := w') (by unfold blB; rw [h, hS]; rfl) hO hB)
  have e3 := s16_id (x := size) (by omega) (by omega)
  rw [e3] at KS
  have A0 := hid (IB.new w 36 idx)
  have size4 : (Try.prog.info? 36).map (·.size) = some 4 := by kernel_rfl
  have S4 := hid size4
  have HIX := hid (fun (k : Nat) (hk : k < 4) (w : World) => run_index_agi Try.underlying36 idx hl k hk w)
  have HL := hid hl
  have k1 : ¬ signs < 0 := by omega
  have k3 : ¬ 16 ≤ signs := by omega
  have k5 : ¬ size < 0 := by omega
  clear hS e3 size4 hl
  go_enter Try.func26, Try.ntmps26
  go_wp2_with (first
    | (go_at_call 62; (with_reducible refine (KS.out _).mono ?_); rintro e w' ⟨rfl, rfl⟩)
    | (at_make; refine wpList_makeI rfl _ _ rfl .i64 .i64 40 rfl rfl w.heap.size (by omega) (by simp) ?_; intro w1 hO hG; simp only [World.size_alloc] at hO; have O1 := hid (show Own w1 w.heap.size (some ⟨w.heap.size + 1, 0, none⟩) 40 (blN idx signs size 0) by rw [blN_zero]; exact hO); have A1 := hid (Blk.grown A0.out hG (by simp)); have B1 := hid (BA.out.grown hG (by simp) (by simp)); clear hO hG)
    | (refine wpList_loadI rfl 36 (.tmp 3) rfl _ 36 idx 4 _ rfl A1.out Try.underlying36 rfl S4.out HL.out ?_))
  go_loopw [31] (fun iv wr => ∃ n : Nat, n ≤ 4 ∧ iv = .int .i64 n ∧ Hid (allTo okI idx n) ∧ Hid (Own wr w.heap.size (some ⟨w.heap.size + 1, 0, none⟩) 40 (blN idx signs size n)) ∧ Hid (Below w.heap.size w wr)) (fun iv _ => 4 - (intOf iv).toNat)
  case atStart => exact ⟨0, by omega, rfl, hid allTo.zero, O1, B1⟩
  case round =>
    clear O1 B1 A1 A0
    obtain ⟨n, hn, rfl, HA, HO, HB⟩ := hrel
    by_cases hlt : n < 4
    · have hix := HIX.out n hlt
      obtain ⟨x, hx⟩ : ∃ x, x = idx.getD n 0 := ⟨_, rfl⟩
      rw [← hx] at hix
      have KA := pulsesAt_any (n : Nat) x wr
      by_cases hok : 0 ≤ x ∧ x ≤ 9
      · obtain ⟨p, rfl⟩ := Int.eq_ofNat_of_zero_le hok.1
        have hb : atB (n : Nat) (p : Nat) = true := by unfold atB okI; simp; omega
        have hv : atV (n : Nat) (p : Nat) = (n : Nat) + 4 * (p : Nat) := by unfold atV; rw [hb]; rfl
        obtain ⟨j, hj⟩ : ∃ j, j = n + 4 * p := ⟨_, rfl⟩
        unfold AtAns at KA
        rw [hb, hv, show ((n : Nat) : Int) + 4 * ((p : Nat) : Int) = (j : Nat) by omega] at KA
        have KA' := hid KA
        have HA2 := hid (HA.out.succ (by rw [← hx]; exact okI_yes (by omega) (by omega)))
        have hj40 : j < 40 := by omega
        have co := HO.out.cell j (by rw [blN_len]; exact hj40)
        have fo := HO.out.frozen j
        have j1 : (j : Int) < 40 := by omega
        have j2 : (0 : Int) ≤ j := by omega
        have ha := and1 (signs / 2 ^ n)
        have Set := hid (fun v hv => blN_set idx signs size (p := p) hlt (by omega) hx.symm v hv)
        rw [← hj] at Set
        have HX := hid hx
        have HJ := hid hj
        have f2 : ((wr.setCell ⟨w.heap.size + 1, j, none⟩ (.int .i64 (-size))).cell? ⟨w.heap.size + 1, j, none⟩).isSome = true := by
          rw [(HO.out.set_ j (by rw [blN_len]; exact hj40) (-size)).cell j (by simp [blN_len]; exact hj40)]; rfl
        clear KA hb hv hx hj
        by_cases hbit : signs / 2 ^ n % 2 = 1
        · have e1 : (bits BinOp.and IntKind.i64 (signs / 2 ^ n) 1 == 1) = true := by rw [ha, hbit]; rfl
          have NO := hid (show Own ((wr.setCell ⟨w.heap.size + 1, j, none⟩ (.int .i64 (-size))).setCell ⟨w.heap.size + 1, j, none⟩ (.int .i64 size)) w.heap.size (some ⟨w.heap.size + 1, 0, none⟩) 40 (blN idx signs size (n + 1)) from by
            rw [← Set.out size (by rw [if_pos hbit])]
            have h1 := (HO.out.set_ j (by rw [blN_len]; exact hj40) (-size)).set_ j (by rw [List.length_set, blN_len]; exact hj40) size
            rwa [List.set_set] at h1)
          have NB := hid ((HB.out.setCell (p := ⟨w.heap.size + 1, j, none⟩) (show w.heap.size ≤ w.heap.size + 1 by omega) (.int .i64 (-size))).setCell (p := ⟨w.heap.size + 1, j, none⟩) (show w.heap.size ≤ w.heap.size + 1 by omega) (.int .i64 size))
          clear ha hbit
          go_wp2_with (go_at_call 24; (with_reducible refine KA'.out.mono ?_); rintro e w' ⟨rfl, rfl⟩)
          go_roundw
          case rel => exact ⟨n + 1, by omega, by go_num, HA2, NO, NB⟩
          case measure => simp [intOf] <;> omega
        · have e1 : (bits BinOp.and IntKind.i64 (signs / 2 ^ n) 1 == 1) = false := by rw [ha]; simpa using hbit
          have NO := hid (show Own (wr.setCell ⟨w.heap.size + 1, j, none⟩ (.int .i64 (-size))) w.heap.size (some ⟨w.heap.size + 1, 0, none⟩) 40 (blN idx signs size (n + 1)) from by
            rw [← Set.out (-size) (by rw [if_neg hbit])]
            exact HO.out.set_ j (by rw [blN_len]; exact hj40) (-size))
          have NB := hid (HB.out.setCell (p := ⟨w.heap.size + 1, j, none⟩) (show w.heap.size ≤ w.heap.size + 1 by omega) (.int .i64 (-size)))
          clear ha hbit
          go_wp2_with (go_at_call 24; (with_reducible refine KA'.out.mono ?_); rintro e w' ⟨rfl, rfl⟩)
          go_roundw
          case rel => exact ⟨n + 1, by omega, by go_num, HA2, NO, NB⟩
          case measure => simp [intOf] <;> omega
      · have hb : atB (n : Nat) x = false := by unfold atB okI; simp; omega
        have hv : atV (n : Nat) x = 0 := by unfold atV; rw [hb]; rfl
        unfold AtAns at KA
        rw [hb, hv] at KA
        have KA' := hid KA
        have FF := hid (FB.out wr (all_no (i := n) (by rw [HL.out]; exact hlt) (by rw [← hx]; exact okI_no (by omega))) HB.out)
        have HX := hid hx
        clear KA hb hv hx hok
        go_wp2_with (go_at_call 24; (with_reducible refine KA'.out.mono ?_); rintro e w' ⟨rfl, rfl⟩)
        go_ret2
        exact FF.out
    · obtain rfl : n = 4 := by omega
      have FF := hid (FG.out wr _ _ (HA.out.all (by rw [HL.out]; exact Nat.le_refl _)) (by rw [← blN_end]; exact HO.out) HB.out)
      go_wp2
      go_ret2
      exact FF.out

set_option maxHeartbeats 4000000 in
theorem refBuild_any (idx : List Int) (signs size : Int) (w : World) (hl : idx.length = 4) :
    Calls Try.prog 27 #[.agg (agi idx), .int .i64 signs, .int .i64 size] w (NewSE w (blL idx signs size) (errOf (blB idx signs size))) := by
  have BA := hid ((Below.refl w.heap.size w).alloc (Nat.le_refl _) (.cells (agi idx) 36))
  by_cases h : (0 ≤ signs ∧ signs ≤ 15) ∧ 0 ≤ size ∧ size ≤ 32767
  rotate_left
  · have FB := hid (fun w' (hB : Below w.heap.size w w') => bl_bad (idx := idx) (signs := signs) (size := size) (w := w) (w' := w') (by unfold blB blS; simp [h]) hB)
    by_cases k1 : signs < 0
    · clear h
      go_enter Try.func27, Try.ntmps27
      go_wp2
      go_ret2
      exact FB.out _ BA.out
    by_cases k2 : 15 < signs
    · clear h
      go_enter Try.func27, Try.ntmps27
      go_wp2
      go_ret2
      exact FB.out _ BA.out
    by_cases k3 : size < 0
    · clear h
      go_enter Try.func27, Try.ntmps27
      go_wp2
      go_ret2
      exact FB.out _ BA.out
    have k4 : 32767 < size := by omega
    clear h
    go_enter Try.func27, Try.ntmps27
    go_wp2
    go_ret2
    exact FB.out _ BA.out
  obtain ⟨⟨g1, g2⟩, z1, z2⟩ := h
  have hS : blS signs size = true := by unfold blS; simp; omega
  have FB := hid (fun w' (h : idx.all okI = false) (hB : Below w.heap.size w w') => bl_bad (idx := idx) (signs := signs) (size := size) (w := w) (w' := w') (by unfold blB; rw [h]; simp) hB)
  have FG := hid (fun w' A c (h : idx.all okI = true) (hO : Own w' w.heap.size A c ((List.range 40).map (blE idx signs size))) (hB : Below w.heap.size w w') => bl_good (idx := idx) (signs := signs) (size := size) (w := w) (w' := w') (by unfold blB; rw [h, hS]; rfl) hO hB)
  have A0 := hid (IB.new w 36 idx)
  have HL := hid hl
  have k1 : ¬ signs < 0 := by omega
  have k2 : ¬ 15 < signs := by omega
  have k3 : ¬ size < 0 := by omega
  have k4 : ¬ 32767 < size := by omega
  clear hS hl
  go_enter Try.func27, Try.ntmps27
  go_wp2_with (at_make; refine wpList_makeI rfl _ _ rfl .i64 .i64 40 rfl rfl w.heap.size (by omega) (by simp) ?_; intro w1 hO hG; simp only [World.size_alloc] at hO; have O1 := hid (show Own w1 w.heap.size (some ⟨w.heap.size + 1, 0, none⟩) 40 (blK idx signs size 0) by rw [blK_zero]; exact hO); have A1 := hid (Blk.grown A0.out hG (by simp)); have B1 := hid (BA.out.grown hG (by simp) (by simp)); clear hO hG)
  go_loopw [29] (fun iv wr => ∃ k : Nat, k ≤ 40 ∧ iv = .int .i64 k ∧ Hid (∀ j, j < k → okI (idx.getD (j % 4) 0) = true) ∧ Hid (Own wr w.heap.size (some ⟨w.heap.size + 1, 0, none⟩) 40 (blK idx signs size k)) ∧ Hid (IB wr w.heap.size 36 idx) ∧ Hid (Below w.heap.size w wr)) (fun iv _ => 40 - (intOf iv).toNat)
  case atStart => exact ⟨0, by omega, rfl, hid (fun j h => by omega), O1, A1, B1⟩
  case round =>
    clear O1 B1 A1 A0
    obtain ⟨k, hk, rfl, HA, HO, HI, HB⟩ := hrel
    by_cases hlt : k < 40
    · obtain ⟨m, hm⟩ : ∃ m, m = k % 4 := ⟨_, rfl⟩
      obtain ⟨d, hd⟩ : ∃ d, d = k / 4 := ⟨_, rfl⟩
      have hm4 : m < 4 := by omega
      have ci := IB.cell HI.out m (by rw [HL.out]; exact hm4)
      have hmod : (k : Int) % 4 = (m : Nat) := by omega
      have hdiv : (k : Int) / 4 = (d : Nat) := by omega
      have HE := hid (show blE idx signs size k = if idx.getD m 0 = (d : Nat) then (if signs / 2 ^ m % 2 = 1 then size else -size) else 0 by unfold blE; rw [← hm, ← hd])
      have HA1 := hid (fun (h : okI (idx.getD m 0) = true) => show ∀ j, j < k + 1 → okI (idx.getD (j % 4) 0) = true from fun j hj => by
        by_cases e : j = k
        · subst e; rw [← hm]; exact h
        · exact HA.out j (by omega))
      have FF := hid (fun (h : okI (idx.getD m 0) = false) => FB.out wr (all_no (i := m) (by rw [HL.out]; exact hm4) h) HB.out)
      obtain ⟨x, hx⟩ : ∃ x, x = idx.getD m 0 := ⟨_, rfl⟩
      rw [← hx] at ci HE HA1 FF
      have m1 : (m : Int) < 4 := by omega
      have m2 : (0 : Int) ≤ m := by omega
      have hp0 : (0 : Int) < 2 ^ m := Int.pow_pos (by decide)
      have b1 : 0 ≤ signs / 2 ^ m := Int.ediv_nonneg g1 (by omega)
      have HX := hid hx
      have HM := hid hm
      have HD := hid hd
      clear hx hm hd hp0
      by_cases hx0 : x < 0
      · have F2 := hid (FF.out (okI_no (.inl hx0)))
        go_wp2
        go_ret2
        exact F2.out
      by_cases hx9 : 9 < x
      · have F2 := hid (FF.out (okI_no (.inr hx9)))
        go_wp2
        go_ret2
        exact F2.out
      have HA2 := hid (HA1.out (okI_yes (by omega) (by omega)))
      have co := HO.out.cell k (by rw [blK_len]; exact hlt)
      have fo := HO.out.frozen k
      by_cases he : x = (d : Nat)
      · have q1 : 0 ≤ signs / 2 ^ m % 2 := by omega
        have q2 : signs / 2 ^ m % 2 ≤ 1 := by omega
        obtain ⟨b, hb⟩ : ∃ b, b = signs / 2 ^ m % 2 := ⟨_, rfl⟩
        rw [← hb] at q1 q2
        have hval : size * (2 * b - 1) = blE idx signs size k := by
          rw [HE.out, if_pos he, ← hb]
          by_cases h1 : b = 1
          · rw [if_pos h1, h1]; omega
          · obtain rfl : b = 0 := by omega
            rw [if_neg (by omega)]; omega
        obtain ⟨v, hv⟩ : ∃ v, v = size * (2 * b - 1) := ⟨_, rfl⟩
        have v1 : -32767 ≤ v ∧ v ≤ 32767 := by
          rw [hv]
          by_cases h1 : b = 1
          · rw [h1]; omega
          · obtain rfl : b = 0 := by omega
            omega
        obtain ⟨v1, v2⟩ := v1
        have NO := hid (show Own (wr.setCell ⟨w.heap.size + 1, k, none⟩ (.int .i64 v)) w.heap.size (some ⟨w.heap.size + 1, 0, none⟩) 40 (blK idx signs size (k + 1)) from by
          rw [← blK_set idx signs size hlt v (by rw [hv, hval])]
          exact HO.out.set_ k (by rw [blK_len]; exact hlt) v)
        have NI := hid (Blk.far HI.out (p := ⟨w.heap.size + 1, k, none⟩) (show w.heap.size ≠ w.heap.size + 1 by omega) (.int .i64 v))
        have NB := hid (HB.out.setCell (p := ⟨w.heap.size + 1, k, none⟩) (show w.heap.size ≤ w.heap.size + 1 by omega) (.int .i64 v))
        have hb' : signs / 2 ^ m % 2 = b := hb.symm
        have hv' : size * (2 * b - 1) = v := hv.symm
        subst he
        clear hb hv hval
        go_wp2
        go_roundw
        case rel => exact ⟨k + 1, by omega, by go_num, HA2, NO, NI, NB⟩
        case measure => simp [intOf] <;> omega
      · have NO := hid (show Own wr w.heap.size (some ⟨w.heap.size + 1, 0, none⟩) 40 (blK idx signs size (k + 1)) from by
          rw [blK_none idx signs size (by rw [HE.out, if_neg he])]; exact HO.out)
        have e1 : (x == (d : Int)) = false := by simpa using he
        clear co fo
        go_wp2
        go_roundw
        case rel => exact ⟨k + 1, by omega, by go_num, HA2, NO, HI, HB⟩
        case measure => simp [intOf] <;> omega
    · obtain rfl : k = 40 := by omega
      have hall : idx.all okI = true := by
        have : allTo okI idx 4 := fun j hj => by have := HA.out j (by omega); rwa [Nat.mod_eq_of_lt hj] at this
        exact this.all (by rw [HL.out]; exact Nat.le_refl _)
      have FF := hid (FG.out wr _ _ hall (by rw [← blK_end]; exact HO.out) HB.out)
      clear hall hlt
      go_wp2
      go_ret2
      exact FF.out

theorem bl_one : blB [0, 0, 0, 0] 0 1 = true := by decide
theorem bl_one_len : (blL [0, 0, 0, 0] 0 1).length = 40 := by unfold blL; rw [bl_one]; simp

set_option maxHeartbeats 4000000 in
theorem walkPulsesBuilds (w : World) (idx : List Int) (hl : idx.length = 4) (_ : W64 idx) (signs : Int) (_ : -9223372036854775808 ≤ signs ∧ signs ≤ 9223372036854775807) (size : Int) (hs : -9223372036854775808 ≤ size ∧ size ≤ 9223372036854775807) :
    Calls Try.prog 6 #[.agg (agi idx), .int .i64 signs, .int .i64 size] w fun e w' => e = .returned (.bool true) ∧ Below w.heap.size w w' := by
  have K1 := pulsesAt_any (idx.getD 0 0) (idx.getD 1 0)
  have K2 := refAt_any (idx.getD 0 0) (idx.getD 1 0)
  have K3 := hid (fun W => pulsesBuild_any idx signs size W hl hs.1 hs.2)
  have K4 := hid (fun W => refBuild_any idx signs size W hl)
  have K5 := fun W => pulsesBuild_any [0, 0, 0, 0] 0 1 W rfl (by omega) (by omega)
  unfold NewSE at K5
  rw [bl_one_len] at K5
  have K5 : ∀ W, Calls Try.prog 26 #[.agg #[Value.int .i64 0, Value.int .i64 0, Value.int .i64 0, Value.int .i64 0], .int .i64 0, .int .i64 1] W (fun e w' => ∃ A c, e = .returned (.tuple #[.slice A 40 c, .int .i64 (errOf (blB [0, 0, 0, 0] 0 1))]) ∧ Own w' W.heap.size A c (blL [0, 0, 0, 0] 0 1) ∧ Below W.heap.size W w') := K5
  have K5' := hid K5
  unfold AtAns at K1 K2
  have K1' := hid K1
  have K2' := hid K2
  have A0 := hid (IB.new w 36 idx)
  have c0 := IB.cell A0.out 0 (by omega)
  have c1 := IB.cell A0.out 1 (by omega)
  have L0 := hid ((Below.refl _ w).alloc (Nat.le_refl _) (.cells (agi idx) 36))
  have size4 : (Try.prog.info? 36).map (·.size) = some 4 := by kernel_rfl
  have S4 := hid size4
  have HL := hid hl
  have hle := blL_le idx signs size
  clear K1 K2 K5 size4 hl hs
  generalize blL idx signs size = ys at *
  generalize errOf (blB idx signs size) = er at *
  generalize errOf (blB [0, 0, 0, 0] 0 1) = er3 at *
  generalize atV (idx.getD 0 0) (idx.getD 1 0) = av at *
  generalize errOf (atB (idx.getD 0 0) (idx.getD 1 0)) = ae at *
  generalize idx.getD 0 0 = x0 at *
  generalize idx.getD 1 0 = x1 at *
  go_enter Try.func6, Try.ntmps6
  go_wp2_with (first
    | (go_at_call 24; (with_reducible refine (K1'.out _).mono ?_); rintro e w' ⟨rfl, rfl⟩)
    | (go_at_call 25; (with_reducible refine (K2'.out _).mono ?_); rintro e w' ⟨rfl, rfl⟩)
    | (refine wpList_loadI rfl 36 (.tmp 3) rfl _ 36 idx 4 _ rfl A0.out Try.underlying36 rfl S4.out HL.out ?_))
  refine (K3.out _).mono ?_
  rintro e w1 ⟨P1, d1, rfl, hO, hB⟩
  have O1 := hid hO
  have A1 := hid (Blk.below' A0.out hB)
  have L1 := hid (L0.out.trans (hB.mono L0.out.size))
  clear hO hB A0 L0 c0 c1
  go_wp2_with (refine wpList_loadI rfl 36 (.tmp 3) rfl _ 36 idx 4 _ rfl A1.out Try.underlying36 rfl S4.out HL.out ?_)
  refine (K4.out _).mono ?_
  rintro e w2 ⟨P2, d2, rfl, hO, hB⟩
  have O2 := hid hO
  have R1 := hid (O1.out.below hB)
  have L2 := hid (L1.out.trans (hB.mono L1.out.size))
  clear hO hB A1 L1 O1
  go_wp2_with fail
  refine (K5'.out _).mono ?_
  rintro e w3 ⟨P3, d3, rfl, hO, hB⟩
  have R2 := hid (O2.out.below hB)
  have R3 := hid (R1.out.below hB)
  have L3 := hid (L2.out.trans (hB.mono L2.out.size))
  clear hO hB L2 O2 R1
  go_wp2_with fail
  refine (Same_yes P1 P2 d1 d2 ys.length _ _ ys _ R3.out.reads R2.out.reads rfl (by omega)).mono ?_
  rintro e w4 ⟨rfl, hB⟩
  have L4 := hid (L3.out.trans (hB.mono L3.out.size))
  clear hB L3
  go_wp2
  go_ret
  exact ⟨by simp, L4.out⟩
end Go.Proofs.Ytmebhhjkbaddmaa
