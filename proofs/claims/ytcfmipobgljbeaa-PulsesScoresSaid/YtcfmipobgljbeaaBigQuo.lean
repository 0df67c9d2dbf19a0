/- The walks of QuoRem, DivMod, Div (short numbers). -/
import Derived.Test.YtcfmipobgljbeaaBigDiv1
namespace Go.Proofs.Ytcfmipobgljbeaa
set_option linter.unusedVariables false
set_option linter.unusedSimpArgs false
set_option maxRecDepth 100000
open Go.RowKit

/-- What QuoRem and DivMod answer: q in block b, r in block m. -/
def GivesTwo (w : World) (b m : Nat) (q r : Int) (e : Ending) (w' : World) : Prop :=
  e = .returned (.tuple #[.pointer (some ⟨b, 0, none⟩), .pointer (some ⟨m, 0, none⟩)]) ∧ IntAt w' b q ∧ IntAt w' m r ∧ ∃ w1, w.grownBy w1 (some b) ∧ w1.grownBy w' (some m)

theorem sgn_tdiv (x y : Int) : sgn (!(decide (x < 0) == decide (y < 0))) (x.natAbs / y.natAbs) = x.tdiv y := by
  unfold sgn
  rcases Int.natAbs_eq x with hx | hx <;> rcases Int.natAbs_eq y with hy | hy
  all_goals
    generalize x.natAbs = a at *
    generalize y.natAbs = b at *
    subst hx hy
    try simp only [Int.neg_tdiv, Int.tdiv_neg, Int.neg_neg]
    have e : ((a : Int).tdiv b) = ((a / b : Nat) : Int) := by rw [Int.tdiv_eq_ediv_of_nonneg (by omega)]; simp
    rw [e]
    by_cases ha : a = 0
    · subst ha; simp
    · by_cases hb : b = 0
      · subst hb; simp
      · simp <;> (try omega)
        try (split <;> omega)

theorem sgn_tmod (x y : Int) : sgn (decide (x < 0)) (x.natAbs % y.natAbs) = x.tmod y := by
  unfold sgn
  rcases Int.natAbs_eq x with hx | hx <;> rcases Int.natAbs_eq y with hy | hy
  all_goals
    generalize x.natAbs = a at *
    generalize y.natAbs = b at *
    subst hx hy
    try simp only [Int.neg_tmod, Int.tmod_neg, Int.neg_neg]
    have e : ((a : Int).tmod b) = ((a % b : Nat) : Int) := by rw [Int.tmod_eq_emod_of_nonneg (by omega)]; simp
    rw [e]
    by_cases ha : a = 0
    · subst ha; simp
    · simp <;> (try omega)
      try (split <;> omega)

set_option maxHeartbeats 2000000 in
theorem QuoRem_any (w : World) (b c d m : Nat) (x y : Int) (hb : IntBlk w b) (hc : IntAt w c x) (hd : IntAt w d y) (hm : IntBlk w m) (hbm : b ≠ m)
    (hx : x.natAbs < 18446744073709551616 ∨ y.natAbs < 4294967296) (hy : y ≠ 0) (sx : Sm x.natAbs) (sy : Sm y.natAbs) :
    Calls Try.prog 125 #[.pointer (some ⟨b, 0, none⟩), .pointer (some ⟨c, 0, none⟩), .pointer (some ⟨d, 0, none⟩), .pointer (some ⟨m, 0, none⟩)] w (GivesTwo w b m (x.tdiv y) (x.tmod y)) := by
  obtain ⟨vx, h0, h1, hvx⟩ := hc.cells
  obtain ⟨vy, k0, k1, hvy⟩ := hd.cells
  obtain ⟨s, hs⟩ : ∃ s, s = decide (x < 0) := ⟨_, rfl⟩
  rw [← hs] at h0
  obtain ⟨t, ht⟩ : ∃ t, t = decide (y < 0) := ⟨_, rfl⟩
  rw [← ht] at k0
  have D0 := hid (fun n => div_any (w.drewN n) vx vy x.natAbs y.natAbs (hvx.drewN n) (hvy.drewN n) (by omega) hx sx sy)
  have FIN := hid (fun (n : Nat) (w1 w2 w3 : World) (v2 : Value) (_ : Nm w1 v2 (x.natAbs % y.natAbs)) (hB : Below (w.drewN n).heap.size (w.drewN n) w1) (hI : IntAt w2 b (sgn (!(s == t)) (x.natAbs / y.natAbs))) (hG : w1.grownBy w2 (some b)) (hJ : IntAt w3 m (sgn s (x.natAbs % y.natAbs))) (hK : w2.grownBy w3 (some m)) (hbl : IntBlk w2 m) =>
    show GivesTwo w b m (x.tdiv y) (x.tmod y) (.returned (.tuple #[.pointer (some ⟨b, 0, none⟩), .pointer (some ⟨m, 0, none⟩)])) w3 from
      ⟨rfl, by subst hs ht; rw [sgn_tdiv] at hI; exact hI.kept hbl hK hbm, by subst hs ht; rw [sgn_tmod] at hJ; exact hJ, w2, grownBy_trans (grownBy_of_below (show Below w.heap.size w w1 from Below.trans (b := w.drewN n) ⟨rfl, rfl, rfl, Nat.le_refl _, fun _ _ => rfl⟩ hB) (Nat.le_refl _) _) hG, hK⟩)
  have HB := hid hb
  have HM := hid hm
  have HBM := hid hbm
  have hlc := hc.lt
  have hld := hd.lt
  clear hvx hvy hc hd hs ht hb hm hbm hy hx sx
  go_enter Try.func125, Try.ntmps125
  go_wp2
  go_quiet (fail)
  go_wp2_with fail
  go_region_with (go_at_call 126; refine (D0.out _).mono ?_; rintro e w1 ⟨v1, v2, rfl, hn1, hn2, hB⟩; have q1 := hid hn1; have q2 := hid hn2; have q3 := hid hB; clear hn1 hn2 hB)
  all_goals
    have HW := hid (show Below w.heap.size w w1 from Below.trans (b := w.drewN _) ⟨rfl, rfl, rfl, Nat.le_refl _, fun _ _ => rfl⟩ q3.out)
    go_wp2_with fail
    refine (give_any _ b _ v1 _ (HB.out.below HW.out (Nat.le_refl _)) q1.out).mono ?_
    rintro e w2 ⟨rfl, hI, hG⟩
    have q4 := hid hI
    have q5 := hid hG
    have q6 := hid (IntBlk.kept (HM.out.below HW.out (Nat.le_refl _)) hG (fun h => HBM.out h.symm))
    have q7 := hid (q2.out.kept (HB.out.below HW.out (Nat.le_refl _)) hG)
    clear hI hG
    go_wp2_with fail
    refine (give_any _ m _ v2 _ q6.out q7.out).mono ?_
    rintro e w3 ⟨rfl, hJ, hK⟩
    have q8 := hid hJ
    have q9 := hid hK
    clear hJ hK
    go_wp2
    go_ret2
    exact FIN.out _ _ _ _ _ q2.out q3.out q4.out q5.out q8.out q9.out q6.out

theorem grownBy_new {w w' : World} {m : Nat} (h : w.grownBy w' (some m)) (hm : w.heap.size ≤ m) (row : Option Nat) : w.grownBy w' row :=
  ⟨h.os, h.tape, h.output, h.size, fun k hk _ => h.block k hk (by simp; omega)⟩

theorem tdiv_of_nonneg_rem {x y : Int} (hy : 0 < y) (h : ¬ x.tmod y < 0) : x.tdiv y = x / y := by
  have h1 := Int.mul_tdiv_add_tmod x y
  have h2 : x.tmod y < y := Int.tmod_lt_of_pos x hy
  symm
  rw [Int.ediv_eq_iff_of_pos hy]
  generalize x.tdiv y = q at *
  generalize x.tmod y = r at *
  have e1 : q * y = y * q := Int.mul_comm _ _
  have e2 : (q + 1) * y = y * q + y := by rw [Int.add_mul, Int.one_mul, Int.mul_comm]
  first
    | (rw [e1, e2]; omega)
    | (constructor <;> (first | rw [e1] | rw [e2] | skip) <;> omega)

theorem tdiv_of_neg_rem {x y : Int} (hy : 0 < y) (h : x.tmod y < 0) : x.tdiv y - 1 = x / y := by
  have h1 := Int.mul_tdiv_add_tmod x y
  have h2 : -y < x.tmod y := Int.lt_tmod_of_pos x hy
  symm
  rw [Int.ediv_eq_iff_of_pos hy]
  generalize x.tdiv y = q at *
  generalize x.tmod y = r at *
  have e1 : (q - 1) * y = y * q - y := by rw [Int.sub_mul, Int.one_mul, Int.mul_comm]
  have e2 : (q - 1 + 1) * y = y * q := by rw [Int.sub_add_cancel, Int.mul_comm]
  first
    | (rw [e1, e2]; omega)
    | (constructor <;> (first | rw [e1] | rw [e2] | skip) <;> omega)
end Go.Proofs.Ytcfmipobgljbeaa
