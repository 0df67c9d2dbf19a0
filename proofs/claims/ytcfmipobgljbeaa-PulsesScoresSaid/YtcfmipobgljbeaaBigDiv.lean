/- The walks of div (short numbers), QuoRem, DivMod, Div. -/
import Derived.Test.YtcfmipobgljbeaaBigSubO
import Derived.Test.YtcfmipobgljbeaaBigICmp
import Derived.Test.YtcfmipobgljbeaaBigIAdd
import Derived.Deep.RegionWith
namespace Go.Proofs.Ytcfmipobgljbeaa
set_option linter.unusedVariables false
set_option linter.unusedSimpArgs false
set_option maxRecDepth 100000
open Go.RowKit

/-- What div answers. -/
def DivGives (w : World) (q r : Nat) (e : Ending) (w' : World) : Prop := ∃ v1 v2, e = .returned (.tuple #[v1, v2]) ∧ Nm w' v1 q ∧ Nm w' v2 r ∧ Below w.heap.size w w'

theorem Nm.drewN {w : World} {v : Value} {n : Nat} (h : Nm w v n) (k : Nat) : Nm (w.drewN k) v n := h.below (B := w.heap.size) ⟨rfl, rfl, rfl, Nat.le_refl _, fun _ _ => rfl⟩ (Nat.le_refl _)

set_option maxRecDepth 100000 in
set_option maxHeartbeats 2000000 in
theorem div_short (w : World) (va vb : Value) (a b : Nat) (ha : Nm w va a) (hb : Nm w vb b) (hb0 : b ≠ 0) (hlim : a < 18446744073709551616) (sb : Sm b) :
    Calls Try.prog 126 #[va, vb] w (DivGives w (a / b) (a % b)) := by
  have sa : Sm a := sm_of_lt (by omega)
  have HA := hid ha
  have HB := hid hb
  obtain ⟨ao, an, ac, ua, hva, hra, hta, hna, hla⟩ := ha.len sa
  obtain ⟨bo, bn, bc, ub, hvb, hrb, htb, hnb, hlb⟩ := hb.len sb
  have han : an ≤ 2 := by
    rw [← hra.len]; exact len_le_of_lt hta (n := 2) (by rw [hna]; simpa using hlim)
  have hbn : bn ≠ 0 := by
    intro h; subst h
    have : ub = [] := List.length_eq_zero_iff.1 hrb.len
    subst this; exact hb0 (by rw [← hnb]; rfl)
  have hbz : ((bn : Int) == 0) = false := by rw [beq_eq_false_iff_ne]; omega
  have K := hid (cmp_nm w va vb a b ha hb sa sb)
  have T := hid (fun k => twin_nm (w.drewN k) va a (ha.drewN k) sa)
  by_cases hlt : a < b
  · have hc : cmpN a b < 0 := by rw [cmpN_lt hlt]; decide
    have FIN := hid (fun (k : Nat) (v : Value) (w1 : World) (hnm : Nm w1 v a) (hbel : Below (w.drewN k).heap.size (w.drewN k) w1) =>
      show DivGives w (a / b) (a % b) (.returned (.tuple #[.slice none 0 0, v])) w1 from
        ⟨_, _, rfl, by rw [Nat.div_eq_of_lt hlt]; exact Nm.nil w1, by rw [Nat.mod_eq_of_lt hlt]; exact hnm, Below.trans (b := w.drewN k) ⟨rfl, rfl, rfl, Nat.le_refl _, fun _ _ => rfl⟩ hbel⟩)
    clear ha hb hra hta hna hrb htb hnb sa sb hlt hla hlb hb0 hlim
    subst hva hvb
    go_enter Try.func126, Try.ntmps126
    go_wp2_with (first
      | (go_at_call 103; refine K.out.mono ?_; rintro e w1 ⟨rfl, k, rfl⟩)
      | (go_at_call 122; refine (T.out _).mono ?_; rintro e w1 ⟨⟨v1, rfl, hnm⟩, hbel⟩; have q1 := hid hnm; have q2 := hid hbel; clear hnm hbel))
    go_ret2
    exact FIN.out _ _ _ q1.out q2.out
  · have hc : 0 ≤ cmpN a b := by
      unfold cmpN
      repeat' split
      all_goals omega
    have hblim : b < 18446744073709551616 := by omega
    have PA := hid (fun k => plain_any (w.drewN k) va a (ha.drewN k) hlim)
    have PB := hid (fun k => plain_any (w.drewN k) vb b (hb.drewN k) hblim)
    have hbne : ¬ (b : Int) = 0 := by omega
    have hq0 : (0 : Int) ≤ (a : Int) / b := Int.ediv_nonneg (by omega) (by omega)
    have hq1 : (a : Int) / b ≤ 18446744073709551615 := by
      have := Int.ediv_le_self (b : Int) (a := (a : Int)) (by omega); omega
    have hr0 : (0 : Int) ≤ (a : Int) % b := Int.emod_nonneg _ (by omega)
    have hr1 : (a : Int) % b ≤ 18446744073709551615 := by
      have := Int.emod_lt_of_pos (a : Int) (b := (b : Int)) (by omega); omega
    have hqt : ((a : Int) / b).toNat = a / b := by rw [show ((a : Int) / b) = ((a / b : Nat) : Int) from by simp]; exact Int.toNat_natCast _
    have hrt : ((a : Int) % b).toNat = a % b := by rw [show ((a : Int) % b) = ((a % b : Nat) : Int) from by simp]; exact Int.toNat_natCast _
    have HQT := hid hqt
    have HRT := hid hrt
    clear ha hb hra hta hna hrb htb hnb sa sb hlt hla hlb hb0 hqt hrt
    subst hva hvb
    go_enter Try.func126, Try.ntmps126
    go_wp2_with fail
    refine K.out.mono ?_
    rintro e w1 ⟨rfl, k, rfl⟩
    go_wp2_with fail
    refine (PA.out _).mono ?_
    rintro e w1 ⟨rfl, rfl⟩
    go_wp2_with fail
    refine (PB.out _).mono ?_
    rintro e w1 ⟨rfl, rfl⟩
    go_wp2_with fail
    have hw1 : IntKind.u64.wrap ((a : Int) / b) = (a : Int) / b := by
      rw [u64_wrap]; omega
    have hw2 : (a : Int).tmod b = (a : Int) % b := Int.tmod_eq_emod_of_nonneg (by omega)
    have hw3 : (a : Int).tdiv b = (a : Int) / b := Int.tdiv_eq_ediv_of_nonneg (by omega)
    have FIN := hid (fun (w0 w1 w2 : World) (v1 v2 : Value) (h0 : Below w.heap.size w w0) (h1 : Nm w1 v1 ((a : Int) / b).toNat) (h2 : Below w0.heap.size w0 w1) (h3 : Nm w2 v2 ((a : Int) % b).toNat) (h4 : Below w1.heap.size w1 w2) =>
      show DivGives w (a / b) (a % b) (.returned (.tuple #[v1, v2])) w2 from
        ⟨_, _, rfl, by rw [HQT.out] at h1; exact h1.below h4 (Nat.le_refl _), by rw [HRT.out] at h3; exact h3, (h0.trans (h2.mono h0.size)).trans (h4.mono (Nat.le_trans h0.size h2.size))⟩)
    have tok1 : True := trivial
    go_region_with (first
      | (go_at_call 104; have _t := tok1; refine (words_any _ _ (by first | exact hq0 | exact hr0) (by first | exact hq1 | exact hr1)).mono ?_; rintro e w1 ⟨⟨v1, rfl, hnm⟩, hbel⟩; have q1 := hid hnm; have q2 := hid hbel; clear hnm hbel tok1 _t)
      | (go_at_call 104; refine (words_any _ _ (by first | exact hq0 | exact hr0) (by first | exact hq1 | exact hr1)).mono ?_; rintro e w2 ⟨⟨v2, rfl, hnm⟩, hbel⟩; have q3 := hid hnm; have q4 := hid hbel; clear hnm hbel))
    all_goals
      go_wp2
      go_ret2
      exact FIN.out ((w.drewN k).drew) w1 w2 _ _ ⟨rfl, rfl, rfl, Nat.le_refl _, fun _ _ => rfl⟩ q1.out q2.out q3.out q4.out
end Go.Proofs.Ytcfmipobgljbeaa
