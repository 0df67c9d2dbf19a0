/- The walks that the law PitchPicks rests on, in one text. -/
import Derived.Test.YtcfmipobgljbeaaBigSubO
import Derived.Test.YtcfmipobgljbeaaBigICmp
import Derived.Test.YtcfmipobgljbeaaBigIAdd
import Derived.Deep.RegionWith
import Derived.Test.YtcfmipobgljbeaaSteadyW
import Derived.Test.YtcfmipobgljbeaaRefClip
import Derived.BigQuiet
import Derived.Test.YtcfmipobgljbeaaRow
import Derived.Laws.StructEq
import Derived.Test.YtcfmipobgljbeaaDown
import Derived.Test.YtcfmipobgljbeaaSynthM
import Derived.Laws.CopyOwn
import Derived.Deep.RegionLaw
import Derived.Test.YtcfmipobgljbeaaPushN
import Derived.Test.YtcfmipobgljbeaaPastW
import Derived.Deep.RegionHeld3
import Derived.Deep.MidRow
import Derived.Test.YtcfmipobgljbeaaPikR
/- The walks of div (short numbers), QuoRem, DivMod, Div. -/
namespace Go.Proofs.Ytcfmipobgljbeaa
set_option linter.unusedVariables false
set_option linter.unusedSimpArgs false
set_option maxRecDepth 100000
open Go.RowKit

/-- What div answers. -/
def DivGives (w : World) (q r : Nat) (e : Ending) (w' : World) : Prop := ∃ v1 v2, e = .returned (.tuple #[v1, v2]) ∧ Nm w' v1 q ∧ Nm w' v2 r ∧ Below w.heap.size w w'

theorem Nm.drewN {w : World} {v : Value} {n : Nat} (h : Nm w v n) (k : Nat) : Nm (w.drewN k) v n := h.below (B := w.heap.size) ⟨rfl, rfl, rfl, Nat.le_refl _, fun _ _ => rfl⟩ (Nat.le_refl _)

set_option maxRecDepth 100000 in
set_option maxHeartbeats 2000000 in
theorem div_short (w : World) (va vb : Value) (a b : Nat) (ha : Nm w va a) (hb : Nm w vb b) (hb0 : b ≠ 0) (hlim : a < 18446744073709551616) (sb : Sm b) :
    Calls Try.prog 126 #[va, vb] w (DivGives w (a / b) (a % b)) := by
  have sa : Sm a := sm_of_lt (by omega)
  have HA := hid ha
  have HB := hid hb
  obtain ⟨ao, an, ac, ua, hva, hra, hta, hna, hla⟩ := ha.len sa
  obtain ⟨bo, bn, bc, ub, hvb, hrb, htb, hnb, hlb⟩ := hb.len sb
  have han : an ≤ 2 := by
    rw [← hra.len]; exact len_le_of_lt hta (n := 2) (by rw [hna]; simpa using hlim)
  have hbn : bn ≠ 0 := by
    intro h; subst h
    have : ub = [] := List.length_eq_zero_iff.1 hrb.len
    subst this; exact hb0 (by rw [← hnb]; rfl)
  have hbz : ((bn : Int) == 0) = false := by rw [beq_eq_false_iff_ne]; omega
  have K := hid (cmp_nm w va vb a b ha hb sa sb)
  have T := hid (fun k => twin_nm (w.drewN k) va a (ha.drewN k) sa)
  by_cases hlt : a < b
  · have hc : cmpN a b < 0 := by rw [cmpN_lt hlt]; decide
    have FIN := hid (fun (k : Nat) (v : Value) (w1 : World) (hnm : Nm w1 v a) (hbel : Below (w.drewN k).heap.size (w.drewN k) w1) =>
      show DivGives w (a / b) (a % b) (.returned (.tuple #[.slice none 0 0, v])) w1 from
        ⟨_, _, rfl, by rw [Nat.div_eq_of_lt hlt]; exact Nm.nil w1, by rw [Nat.mod_eq_of_lt hlt]; exact hnm, Below.trans (b := w.drewN k) ⟨rfl, rfl, rfl, Nat.le_refl _, fun _ _ => rfl⟩ hbel⟩)
    clear ha hb hra hta hna hrb htb hnb sa sb hlt hla hlb hb0 hlim
    subst hva hvb
    go_enter Try.func126, Try.ntmps126
    go_wp2_with (first
      | (go_at_call 103; refine K.out.mono ?_; rintro e w1 ⟨rfl, k, rfl⟩)
      | (go_at_call 122; refine (T.out _).mono ?_; rintro e w1 ⟨⟨v1, rfl, hnm⟩, hbel⟩; have q1 := hid hnm; have q2 := hid hbel; clear hnm hbel))
    go_ret2
    exact FIN.out _ _ _ q1.out q2.out
  · have hc : 0 ≤ cmpN a b := by
      unfold cmpN
      repeat' split
      all_goals omega
    have hblim : b < 18446744073709551616 := by omega
    have PA := hid (fun k => plain_any (w.drewN k) va a (ha.drewN k) hlim)
    have PB := hid (fun k => plain_any (w.drewN k) vb b (hb.drewN k) hblim)
    have hbne : ¬ (b : Int) = 0 := by omega
    have hq0 : (0 : Int) ≤ (a : Int) / b := Int.ediv_nonneg (by omega) (by omega)
    have hq1 : (a : Int) / b ≤ 18446744073709551615 := by
      have := Int.ediv_le_self (b : Int) (a := (a : Int)) (by omega); omega
    have hr0 : (0 : Int) ≤ (a : Int) % b := Int.emod_nonneg _ (by omega)
    have hr1 : (a : Int) % b ≤ 18446744073709551615 := by
      have := Int.emod_lt_of_pos (a : Int) (b := (b : Int)) (by omega); omega
    have hqt : ((a : Int) / b).toNat = a / b := by rw [show ((a : Int) / b) = ((a / b : Nat) : Int) from by simp]; exact Int.toNat_natCast _
    have hrt : ((a : Int) % b).toNat = a % b := by rw [show ((a : Int) % b) = ((a % b : Nat) : Int) from by simp]; exact Int.toNat_natCast _
    have HQT := hid hqt
    have HRT := hid hrt
    clear ha hb hra hta hna hrb htb hnb sa sb hlt hla hlb hb0 hqt hrt
    subst hva hvb
    go_enter Try.func126, Try.ntmps126
    go_wp2_with fail
    refine K.out.mono ?_
    rintro e w1 ⟨rfl, k, rfl⟩
    go_wp2_with fail
    refine (PA.out _).mono ?_
    rintro e w1 ⟨rfl, rfl⟩
    go_wp2_with fail
    refine (PB.out _).mono ?_
    rintro e w1 ⟨rfl, rfl⟩
    go_wp2_with fail
    have hw1 : IntKind.u64.wrap ((a : Int) / b) = (a : Int) / b := by
      rw [u64_wrap]; omega
    have hw2 : (a : Int).tmod b = (a : Int) % b := Int.tmod_eq_emod_of_nonneg (by omega)
    have hw3 : (a : Int).tdiv b = (a : Int) / b := Int.tdiv_eq_ediv_of_nonneg (by omega)
    have FIN := hid (fun (w0 w1 w2 : World) (v1 v2 : Value) (h0 : Below w.heap.size w w0) (h1 : Nm w1 v1 ((a : Int) / b).toNat) (h2 : Below w0.heap.size w0 w1) (h3 : Nm w2 v2 ((a : Int) % b).toNat) (h4 : Below w1.heap.size w1 w2) =>
      show DivGives w (a / b) (a % b) (.returned (.tuple #[v1, v2])) w2 from
        ⟨_, _, rfl, by rw [HQT.out] at h1; exact h1.below h4 (Nat.le_refl _), by rw [HRT.out] at h3; exact h3, (h0.trans (h2.mono h0.size)).trans (h4.mono (Nat.le_trans h0.size h2.size))⟩)
    have tok1 : True := trivial
    go_region_with (first
      | (go_at_call 104; have _t := tok1; refine (words_any _ _ (by first | exact hq0 | exact hr0) (by first | exact hq1 | exact hr1)).mono ?_; rintro e w1 ⟨⟨v1, rfl, hnm⟩, hbel⟩; have q1 := hid hnm; have q2 := hid hbel; clear hnm hbel tok1 _t)
      | (go_at_call 104; refine (words_any _ _ (by first | exact hq0 | exact hr0) (by first | exact hq1 | exact hr1)).mono ?_; rintro e w2 ⟨⟨v2, rfl, hnm⟩, hbel⟩; have q3 := hid hnm; have q4 := hid hbel; clear hnm hbel))
    all_goals
      go_wp2
      go_ret2
      exact FIN.out ((w.drewN k).drew) w1 w2 _ _ ⟨rfl, rfl, rfl, Nat.le_refl _, fun _ _ => rfl⟩ q1.out q2.out q3.out q4.out
end Go.Proofs.Ytcfmipobgljbeaa

/- The walks of small, and of div where it has one word below. -/
namespace Go.Proofs.Ytcfmipobgljbeaa
set_option linter.unusedVariables false
set_option linter.unusedSimpArgs false
set_option maxRecDepth 100000
open Go.RowKit

/-- What small answers. -/
def SmGives (w : World) (q r : Nat) (e : Ending) (w' : World) : Prop := ∃ v, e = .returned (.tuple #[v, .int .u32 (r : Nat)]) ∧ Nm w' v q ∧ Below w.heap.size w w'

structure SmInv (w wr : World) (an : Nat) (ua : List Nat) (d k r : Nat) (rs : List Nat) : Prop where
  len : rs.length = an
  ok : wok rs
  lt : r < d
  val : wv (ua.drop k) = d * wv (rs.drop k) + r
  own : wr.ownsRow w.heap.size 95 1 (.slice (some ⟨w.heap.size, 0, none⟩) an an) an (W32 rs)
  bel : Below w.heap.size w wr

theorem drop_set_succ (l : List Nat) (k x : Nat) (h : k < l.length) : (l.set k x).drop k = x :: l.drop (k + 1) := by
  rw [List.set_eq_take_append_cons_drop, if_pos h, List.drop_append, List.drop_of_length_le (by rw [List.length_take]; omega), List.length_take, Nat.min_eq_left (by omega)]
  simp

theorem SmInv.step {w wr : World} {an : Nat} {ua : List Nat} {d k r : Nat} {rs : List Nat} (h : SmInv w wr an ua d (k + 1) r rs) (hk : k < an) (hl : ua.length = an) (hd : d < 4294967296) (hxa : ua.getD k 0 < 4294967296) :
    SmInv w (wr.setCell ⟨w.heap.size, k, none⟩ (.int .u32 (((r * 4294967296 + ua.getD k 0) / d : Nat) : Int))) an ua d k ((r * 4294967296 + ua.getD k 0) % d) (rs.set k ((r * 4294967296 + ua.getD k 0) / d)) ∧ (r * 4294967296 + ua.getD k 0) / d < 4294967296 := by
  have hrl := h.len
  have hlt := h.lt
  have hq : (r * 4294967296 + ua.getD k 0) / d < 4294967296 := by
    rw [Nat.div_lt_iff_lt_mul (by omega)]
    have := Nat.mul_le_mul_right 4294967296 (show r + 1 ≤ d by omega)
    rw [Nat.mul_comm 4294967296 d]
    omega
  refine ⟨⟨by simpa using h.len, wok_set h.ok k hq, Nat.mod_lt _ (by omega), ?_, ?_, h.bel.setCell (Nat.le_refl _) _⟩, hq⟩
  · rw [drop_set_succ _ _ _ (by omega), drop_getD ua k (by omega), wv, wv, h.val]
    have h1 := Nat.div_add_mod (r * 4294967296 + ua.getD k 0) d
    generalize ua.getD k 0 = x at *
    generalize wv (rs.drop (k + 1)) = W at *
    generalize (r * 4294967296 + x) / d = Q at *
    generalize (r * 4294967296 + x) % d = R at *
    rw [Nat.mul_add, Nat.mul_add]
    have h2 : 4294967296 * (d * W) = d * (4294967296 * W) := by rw [← Nat.mul_assoc, Nat.mul_comm 4294967296 d, Nat.mul_assoc]
    rw [h2]
    omega
  · have := (h.own.stored k (.int .u32 (((r * 4294967296 + ua.getD k 0) / d : Nat) : Int))).1
    rwa [W32_set] at this

theorem small_or {r x : Nat} (hr : r < 4294967296) (hx : x < 4294967296) : bits BinOp.or IntKind.u64 ((r : Int) * 4294967296) (x : Int) = ((r * 4294967296 + x : Nat) : Int) := by
  rw [show ((r : Int) * 4294967296) = ((r * 4294967296 : Nat) : Int) from by omega, u64_or_nat _ _ (by omega) (by omega),
    nat_join 32 _ _ (by omega) (by omega)]

set_option maxRecDepth 100000 in
set_option maxHeartbeats 2000000 in
theorem small_any (w : World) (ao : Option Addr) (an ac : Nat) (ua : List Nat) (d : Nat) (ha : Rd w ao an ac ua) (hn : an ≤ 64) (h0 : 0 < d) (hd : d < 4294967296) :
    Calls Try.prog 128 #[.slice ao an ac, .int .u32 (d : Nat)] w (SmGives w (wv ua / d) (wv ua % d)) := by
  obtain ⟨i0, hi, hz0, hz1, hz2⟩ := info_parts info32
  have HA := hid ha
  have HD := hid (And.intro h0 hd)
  have hdn : ¬ (d : Int) = 0 := by omega
  have hd0 : (0 : Int) < d := by omega
  clear ha h0
  go_enter Try.func128, Try.ntmps128
  go_wp2_with (first
    | (at_make; refine wpList_make_full _ rfl _ _ 55 rfl w.heap.size 95 i0 (.int .u32 0) 1 Try.underlying55 hi hz0 hz1 _ _ _ _ an rfl rfl (by simp) (by simp) (by rw [hz2]; omega) (by unfold maxLen; omega) (Nat.le_refl _) ?_; intro w1 hown hgrow)
    )
  rw [make32] at hown
  have inv0 : SmInv w w1 an ua d an 0 (List.replicate an 0) := ⟨by simp, wok_replicate _, HD.out.1, by rw [List.drop_of_length_le (by rw [HA.out.len]; omega), List.drop_of_length_le (by simp)]; simp [wv], hown, (Below.refl _ _).grown hgrow (Nat.le_refl _) (fun k h => by cases h)⟩
  clear hown hgrow
  go_loopw [7, 8] (fun rv iv wr => ∃ (k r : Nat) (rs : List Nat), k ≤ an ∧ iv = .int .i64 ((k : Int) - 1) ∧ rv = .int .u64 r ∧ r < 4294967296 ∧ SmInv w wr an ua d k r rs) (fun _ iv _ => (intOf iv + 1).toNat)
  case atStart => exact ⟨an, 0, _, by omega, by first | rfl | simp, rfl, by omega, inv0⟩
  case round =>
    clear inv0 w1
    obtain ⟨k, r, rs, hk, rfl, rfl, hr, inv⟩ := hrel
    by_cases hka : 0 < k
    · obtain ⟨j, rfl⟩ : ∃ j, k = j + 1 := ⟨k - 1, by omega⟩
      rw [show (((j + 1 : Nat) : Int) - 1) = (j : Int) from by omega]
      have hcr : ∃ v, wr.cell? ⟨w.heap.size, j, none⟩ = some v := by
        rw [inv.own.cellAt j (by omega)]
        exact ⟨_, List.getElem?_eq_getElem (by simp [W32, inv.len]; omega)⟩
      have hfr := inv.own.frozenAt j
      obtain ⟨v0, hcr⟩ := hcr
      have INV := hid inv
      clear inv
      obtain ⟨g, off, rfl⟩ := HA.out.addr (by omega)
      have hca := (HA.out.below INV.out.bel (Nat.le_refl _)).cell j (by omega)
      have hra := wok_getD HA.out.ok j
      have ST := hid (INV.out.step (by omega) HA.out.len hd hra)
      generalize hxa : ua.getD j 0 = xa at hca hra ST
      clear hxa
      have eor := small_or hr hra
      obtain ⟨X, hX⟩ : ∃ X, X = r * 4294967296 + xa := ⟨_, rfl⟩
      rw [← hX] at ST eor
      have hX1 : X < 18446744073709551616 := by omega
      have eq1 : (X : Int) / d = ((X / d : Nat) : Int) := by simp
      have eq2 : (X : Int) % d = ((X % d : Nat) : Int) := by simp
      have hQ := ST.out.2
      have hR : X % d < 4294967296 := by have := Nat.mod_lt X HD.out.1; omega
      have HX := hid hX
      clear hX hka
      generalize X / d = Q at *
      generalize X % d = R at *
      go_wp2
      go_roundw
      case rel => exact ⟨j, R, _, by omega, by first | rfl | simp, by first | rfl | (rw [eq2]) | (simp [eq2]), hR, ST.out.1⟩
      case measure => simp [intOf] <;> omega
    · obtain rfl : k = 0 := by omega
      have INV := hid inv
      have hval := inv.val
      have hlt := inv.lt
      simp only [List.drop_zero] at hval
      have e1 : wv ua / d = wv rs := by
        rw [hval]
        rw [Nat.mul_add_div (by omega), Nat.div_eq_of_lt hlt, Nat.add_zero]
      have e2 : wv ua % d = r := by
        rw [hval, Nat.mul_add_mod, Nat.mod_eq_of_lt hlt]
      have E := hid (And.intro e1 e2)
      clear inv hval hlt e1 e2
      go_wp2_with (go_at_call 105; refine (trim_own _ w.heap.size _ an rs INV.out.own INV.out.ok).mono ?_; rintro e w' ⟨⟨v', rfl, hnm⟩, rfl⟩)
      go_ret2
      exact ⟨v', by rw [E.out.2]; first | rfl | simp, by rw [E.out.1]; exact hnm, INV.out.bel⟩

theorem Nm.one_word (w : World) (r : Nat) (h : r < 4294967296) : ∀ c, (w.alloc (.cells #[.int .u32 (r : Nat)] 95)).ownsRow c 95 1 (.slice (some ⟨w.heap.size, 0, none⟩) 1 1) 1 (W32 [r]) ∨ ¬ c ≤ w.heap.size := fun c => by
  by_cases hc : c ≤ w.heap.size
  · exact .inl (World.ownsRow_lit (base := c) (e := 95) (size := 1) w #[.int .u32 (r : Nat)] 1 hc (by unfold maxLen; omega) rfl)
  · exact .inr hc

set_option maxRecDepth 100000 in
set_option maxHeartbeats 2000000 in
theorem div_one (w : World) (va vb : Value) (a b : Nat) (ha : Nm w va a) (hb : Nm w vb b) (hb0 : b ≠ 0) (hlim : ¬ a < 18446744073709551616) (hb1 : b < 4294967296) (sa : Sm a) :
    Calls Try.prog 126 #[va, vb] w (DivGives w (a / b) (a % b)) := by
  have sb : Sm b := sm_of_lt (by omega)
  have HA := hid ha
  have HB := hid hb
  obtain ⟨ao, an, ac, ua, hva, hra, hta, hna, hla⟩ := ha.len sa
  obtain ⟨bo, bn, bc, ub, hvb, hrb, htb, hnb, hlb⟩ := hb.len sb
  have han : 2 < an := by
    have h1 := wv_lt hra.ok
    rw [hra.len, hna] at h1
    by_cases hc : 2 < an
    · exact hc
    · have h2 : (4294967296 : Nat) ^ an ≤ 4294967296 ^ 2 := Nat.pow_le_pow_right (by decide) (by omega)
      omega
  have hbn1 : bn ≤ 1 := by rw [← hrb.len]; exact len_le_of_lt htb (n := 1) (by rw [hnb]; simpa using hb1)
  obtain ⟨y, rfl⟩ : ∃ y, ub = [y] := by
    match ub, hrb.len, hnb with
    | [], h, hn => exact absurd hn.symm hb0
    | [y], _, _ => exact ⟨y, rfl⟩
    | y :: z :: l, h, _ => simp at h; omega
  obtain rfl : bn = 1 := by simpa using hrb.len.symm
  obtain rfl : y = b := by simpa [wv] using hnb
  obtain ⟨g, off, rfl⟩ := hrb.addr (by omega)
  have hcb := hrb.cell 0 (by omega)
  simp at hcb
  have K := hid (cmp_nm w va vb a y ha hb sa sb)
  have hc : 0 ≤ cmpN a y := by
    unfold cmpN
    repeat' split
    all_goals omega
  have SM := hid (fun k => small_any (w.drewN k) ao an ac ua y (hra.below (below_drN w k) (Nat.le_refl _)) (by omega) (by omega) hb1)
  have hrr : a % y < 4294967296 := by have := Nat.mod_lt a (show 0 < y by omega); omega
  rw [hna] at SM
  have HR := hid hrr
  have HB0 := hid hb0
  clear ha hb hra hta hna hrb htb hnb sa sb hla hlb hb0 hlim hrr hbn1
  subst hva hvb
  go_enter Try.func126, Try.ntmps126
  go_wp2_with fail
  refine K.out.mono ?_
  rintro e w1 ⟨rfl, k, rfl⟩
  go_wp2_with fail
  refine (SM.out k).mono ?_
  rintro e w1 ⟨v1, rfl, hn1, hB1⟩
  have N1 := hid hn1
  have B1 := hid (show Below w.heap.size w w1 from Below.trans (b := w.drewN k) ⟨rfl, rfl, rfl, Nat.le_refl _, fun _ _ => rfl⟩ hB1)
  have hO := (Nm.one_word w1 (a % y) HR.out w1.heap.size).resolve_right (by simp)
  have OW := hid hO
  clear hn1 hB1 hO
  go_wp2_with fail
  refine (trim_own _ w1.heap.size _ 1 [a % y] OW.out (by intro x hx; simp at hx; subst hx; exact HR.out)).mono ?_
  rintro e w2 ⟨⟨v2, rfl, hn2⟩, rfl⟩
  have N2 := hid hn2
  clear hn2
  go_wp2
  go_ret2
  refine ⟨_, _, rfl, N1.out.below ((Below.refl _ _).alloc (Nat.le_refl _) _) (Nat.le_refl _), ?_, B1.out.trans ((((Below.refl _ w1).alloc (Nat.le_refl _) _)).mono B1.out.size)⟩
  have := N2.out
  simpa [wv] using this

theorem div_any (w : World) (va vb : Value) (a b : Nat) (ha : Nm w va a) (hb : Nm w vb b) (hb0 : b ≠ 0) (hlim : a < 18446744073709551616 ∨ b < 4294967296) (sa : Sm a) (sb : Sm b) :
    Calls Try.prog 126 #[va, vb] w (DivGives w (a / b) (a % b)) := by
  by_cases h : a < 18446744073709551616
  · exact div_short w va vb a b ha hb hb0 h sb
  · exact div_one w va vb a b ha hb hb0 h (by omega) sa
end Go.Proofs.Ytcfmipobgljbeaa

/- The walks of QuoRem, DivMod, Div (short numbers). -/
namespace Go.Proofs.Ytcfmipobgljbeaa
set_option linter.unusedVariables false
set_option linter.unusedSimpArgs false
set_option maxRecDepth 100000
open Go.RowKit

/-- What QuoRem and DivMod answer: q in block b, r in block m. -/
def GivesTwo (w : World) (b m : Nat) (q r : Int) (e : Ending) (w' : World) : Prop :=
  e = .returned (.tuple #[.pointer (some ⟨b, 0, none⟩), .pointer (some ⟨m, 0, none⟩)]) ∧ IntAt w' b q ∧ IntAt w' m r ∧ ∃ w1, w.grownBy w1 (some b) ∧ w1.grownBy w' (some m)

theorem sgn_tdiv (x y : Int) : sgn (!(decide (x < 0) == decide (y < 0))) (x.natAbs / y.natAbs) = x.tdiv y := by
  unfold sgn
  rcases Int.natAbs_eq x with hx | hx <;> rcases Int.natAbs_eq y with hy | hy
  all_goals
    generalize x.natAbs = a at *
    generalize y.natAbs = b at *
    subst hx hy
    try simp only [Int.neg_tdiv, Int.tdiv_neg, Int.neg_neg]
    have e : ((a : Int).tdiv b) = ((a / b : Nat) : Int) := by rw [Int.tdiv_eq_ediv_of_nonneg (by omega)]; simp
    rw [e]
    by_cases ha : a = 0
    · subst ha; simp
    · by_cases hb : b = 0
      · subst hb; simp
      · simp <;> (try omega)
        try (split <;> omega)

theorem sgn_tmod (x y : Int) : sgn (decide (x < 0)) (x.natAbs % y.natAbs) = x.tmod y := by
  unfold sgn
  rcases Int.natAbs_eq x with hx | hx <;> rcases Int.natAbs_eq y with hy | hy
  all_goals
    generalize x.natAbs = a at *
    generalize y.natAbs = b at *
    subst hx hy
    try simp only [Int.neg_tmod, Int.tmod_neg, Int.neg_neg]
    have e : ((a : Int).tmod b) = ((a % b : Nat) : Int) := by rw [Int.tmod_eq_emod_of_nonneg (by omega)]; simp
    rw [e]
    by_cases ha : a = 0
    · subst ha; simp
    · simp <;> (try omega)
      try (split <;> omega)

set_option maxHeartbeats 2000000 in
theorem QuoRem_any (w : World) (b c d m : Nat) (x y : Int) (hb : IntBlk w b) (hc : IntAt w c x) (hd : IntAt w d y) (hm : IntBlk w m) (hbm : b ≠ m)
    (hx : x.natAbs < 18446744073709551616 ∨ y.natAbs < 4294967296) (hy : y ≠ 0) (sx : Sm x.natAbs) (sy : Sm y.natAbs) :
    Calls Try.prog 125 #[.pointer (some ⟨b, 0, none⟩), .pointer (some ⟨c, 0, none⟩), .pointer (some ⟨d, 0, none⟩), .pointer (some ⟨m, 0, none⟩)] w (GivesTwo w b m (x.tdiv y) (x.tmod y)) := by
  obtain ⟨vx, h0, h1, hvx⟩ := hc.cells
  obtain ⟨vy, k0, k1, hvy⟩ := hd.cells
  obtain ⟨s, hs⟩ : ∃ s, s = decide (x < 0) := ⟨_, rfl⟩
  rw [← hs] at h0
  obtain ⟨t, ht⟩ : ∃ t, t = decide (y < 0) := ⟨_, rfl⟩
  rw [← ht] at k0
  have D0 := hid (fun n => div_any (w.drewN n) vx vy x.natAbs y.natAbs (hvx.drewN n) (hvy.drewN n) (by omega) hx sx sy)
  have FIN := hid (fun (n : Nat) (w1 w2 w3 : World) (v2 : Value) (_ : Nm w1 v2 (x.natAbs % y.natAbs)) (hB : Below (w.drewN n).heap.size (w.drewN n) w1) (hI : IntAt w2 b (sgn (!(s == t)) (x.natAbs / y.natAbs))) (hG : w1.grownBy w2 (some b)) (hJ : IntAt w3 m (sgn s (x.natAbs % y.natAbs))) (hK : w2.grownBy w3 (some m)) (hbl : IntBlk w2 m) =>
    show GivesTwo w b m (x.tdiv y) (x.tmod y) (.returned (.tuple #[.pointer (some ⟨b, 0, none⟩), .pointer (some ⟨m, 0, none⟩)])) w3 from
      ⟨rfl, by subst hs ht; rw [sgn_tdiv] at hI; exact hI.kept hbl hK hbm, by subst hs ht; rw [sgn_tmod] at hJ; exact hJ, w2, grownBy_trans (grownBy_of_below (show Below w.heap.size w w1 from Below.trans (b := w.drewN n) ⟨rfl, rfl, rfl, Nat.le_refl _, fun _ _ => rfl⟩ hB) (Nat.le_refl _) _) hG, hK⟩)
  have HB := hid hb
  have HM := hid hm
  have HBM := hid hbm
  have hlc := hc.lt
  have hld := hd.lt
  clear hvx hvy hc hd hs ht hb hm hbm hy hx sx
  go_enter Try.func125, Try.ntmps125
  go_wp2
  go_quiet (fail)
  go_wp2_with fail
  go_region_with (go_at_call 126; refine (D0.out _).mono ?_; rintro e w1 ⟨v1, v2, rfl, hn1, hn2, hB⟩; have q1 := hid hn1; have q2 := hid hn2; have q3 := hid hB; clear hn1 hn2 hB)
  all_goals
    have HW := hid (show Below w.heap.size w w1 from Below.trans (b := w.drewN _) ⟨rfl, rfl, rfl, Nat.le_refl _, fun _ _ => rfl⟩ q3.out)
    go_wp2_with fail
    refine (give_any _ b _ v1 _ (HB.out.below HW.out (Nat.le_refl _)) q1.out).mono ?_
    rintro e w2 ⟨rfl, hI, hG⟩
    have q4 := hid hI
    have q5 := hid hG
    have q6 := hid (IntBlk.kept (HM.out.below HW.out (Nat.le_refl _)) hG (fun h => HBM.out h.symm))
    have q7 := hid (q2.out.kept (HB.out.below HW.out (Nat.le_refl _)) hG)
    clear hI hG
    go_wp2_with fail
    refine (give_any _ m _ v2 _ q6.out q7.out).mono ?_
    rintro e w3 ⟨rfl, hJ, hK⟩
    have q8 := hid hJ
    have q9 := hid hK
    clear hJ hK
    go_wp2
    go_ret2
    exact FIN.out _ _ _ _ _ q2.out q3.out q4.out q5.out q8.out q9.out q6.out

theorem grownBy_new {w w' : World} {m : Nat} (h : w.grownBy w' (some m)) (hm : w.heap.size ≤ m) (row : Option Nat) : w.grownBy w' row :=
  ⟨h.os, h.tape, h.output, h.size, fun k hk _ => h.block k hk (by simp; omega)⟩

theorem tdiv_of_nonneg_rem {x y : Int} (hy : 0 < y) (h : ¬ x.tmod y < 0) : x.tdiv y = x / y := by
  have h1 := Int.mul_tdiv_add_tmod x y
  have h2 : x.tmod y < y := Int.tmod_lt_of_pos x hy
  symm
  rw [Int.ediv_eq_iff_of_pos hy]
  generalize x.tdiv y = q at *
  generalize x.tmod y = r at *
  have e1 : q * y = y * q := Int.mul_comm _ _
  have e2 : (q + 1) * y = y * q + y := by rw [Int.add_mul, Int.one_mul, Int.mul_comm]
  first
    | (rw [e1, e2]; omega)
    | (constructor <;> (first | rw [e1] | rw [e2] | skip) <;> omega)

theorem tdiv_of_neg_rem {x y : Int} (hy : 0 < y) (h : x.tmod y < 0) : x.tdiv y - 1 = x / y := by
  have h1 := Int.mul_tdiv_add_tmod x y
  have h2 : -y < x.tmod y := Int.lt_tmod_of_pos x hy
  symm
  rw [Int.ediv_eq_iff_of_pos hy]
  generalize x.tdiv y = q at *
  generalize x.tmod y = r at *
  have e1 : (q - 1) * y = y * q - y := by rw [Int.sub_mul, Int.one_mul, Int.mul_comm]
  have e2 : (q - 1 + 1) * y = y * q := by rw [Int.sub_add_cancel, Int.mul_comm]
  first
    | (rw [e1, e2]; omega)
    | (constructor <;> (first | rw [e1] | rw [e2] | skip) <;> omega)
end Go.Proofs.Ytcfmipobgljbeaa

/- The walks of Quo, BitLen, IsInt64, where the seat has them. -/
namespace Go.Proofs.Ytcfmipobgljbeaa
set_option linter.unusedVariables false
set_option linter.unusedSimpArgs false
set_option maxRecDepth 100000
open Go.RowKit

theorem BitLen_any (w : World) (c : Nat) (x : Int) (hc : IntAt w c x) (sx : Sm x.natAbs) :
    Calls Try.prog 34 #[.pointer (some ⟨c, 0, none⟩)] w fun e w' => e = .returned (.int .i64 (bitlen x.natAbs : Nat)) ∧ w = w' := by
  obtain ⟨v, h0, h1, hv⟩ := hc.cells
  have K := hid (length_any w v _ hv sx)
  clear hv hc
  go_enter Try.func34, Try.ntmps34
  go_wp2_with (go_at_call 72; refine K.out.mono ?_; rintro e w1 ⟨rfl, rfl⟩)
  go_ret
  exact ⟨rfl, rfl⟩
end Go.Proofs.Ytcfmipobgljbeaa

/- The walk of the reference's Mix. -/
namespace Go.Proofs.Ytcfmipobgljbeaa
set_option linter.unusedVariables false
set_option linter.unusedSimpArgs false
set_option maxRecDepth 100000
open Go.RowKit

theorem below_dA (w : World) (n : Nat) (o : Obj) : Below w.heap.size w ((w.drewN n).alloc o) :=
  Below.alloc (a := w) (w := w.drewN n) ⟨rfl, rfl, rfl, Nat.le_refl _, fun _ _ => rfl⟩ (Nat.le_refl _) o

/-- The two arguments' boxes and the answer's, what lies below untouched. -/
structure Bx3 (w wr : World) (a b r : List Int) : Prop where
  A : IB wr w.heap.size 42 a
  B : IB wr (w.heap.size + 1) 42 b
  R : IB wr (w.heap.size + 1 + 1) 42 r
  bel : Below w.heap.size w wr
theorem Bx3.lt {w wr : World} {a b r : List Int} (h : Bx3 w wr a b r) : w.heap.size + 1 + 1 < wr.heap.size := Blk.lt h.R
theorem Bx3.below {w wr wr' : World} {a b r : List Int} (h : Bx3 w wr a b r) (hb : Below wr.heap.size wr wr') : Bx3 w wr' a b r :=
  ⟨Blk.below' h.A hb, Blk.below' h.B hb, Blk.below' h.R hb, h.bel.trans (hb.mono (by have := h.lt; omega))⟩
theorem Bx3.setCell {w wr : World} {a b r : List Int} (h : Bx3 w wr a b r) {g : Nat} (hg : w.heap.size + 1 + 1 < g) (k : Nat) (v : Value) : Bx3 w (wr.setCell ⟨g, k, none⟩ v) a b r :=
  ⟨Blk.far h.A (by show w.heap.size ≠ g; omega) _, Blk.far h.B (by show w.heap.size + 1 ≠ g; omega) _, Blk.far h.R (by show w.heap.size + 1 + 1 ≠ g; omega) _, h.bel.setCell (p := ⟨g, k, none⟩) (by show w.heap.size ≤ g; omega) _⟩
theorem Bx3.start (w : World) (a b : List Int) : Bx3 w (((w.alloc (.cells (agi a) 42)).alloc (.cells (agi b) 42)).alloc (.cells (agi Z8) 42)) a b Z8 := by
  have h1 := IB.new w 42 a
  have h2 := IB.new (w.alloc (.cells (agi a) 42)) 42 b
  have h3 := IB.new ((w.alloc (.cells (agi a) 42)).alloc (.cells (agi b) 42)) 42 Z8
  simp only [World.size_alloc] at h2 h3
  exact ⟨(Blk.alloc h1 _).alloc _, Blk.alloc h2 _, h3, (((Below.refl _ _).alloc (Nat.le_refl _) _).alloc (by simp) _).alloc (by simp; omega) _⟩

end Go.Proofs.Ytcfmipobgljbeaa

/- Two arrays of numbers that are the same. -/
namespace Go.Proofs.Ytcfmipobgljbeaa
set_option linter.unusedVariables false
set_option linter.unusedSimpArgs false
set_option maxRecDepth 100000
open Go.RowKit

theorem run_equalIn_agi (d : Nat) {t : TypeId} {n : Nat} (ht : Try.prog.underlying t = some (.array n 3)) (xs : List Int) (hl : xs.length = n) (w : World) :
    (Op.equalIn (d + 2) t (.agg (agi xs)) (.agg (agi xs))).run Try.prog w = .ok true w := by
  have hs : ∀ w, (sizeOf 3).run Try.prog w = .ok 1 w := fun w => by kernel_rfl
  have ha : ∀ w, (isAgg 3).run Try.prog w = .ok false w := fun w => by kernel_rfl
  rw [Op.equalIn]
  simp only [Sem.run_bind, run_underlying ht, Result.andThen_ok, hs, Std.Legacy.Range.forIn_eq_forIn_range', Std.Legacy.Range.size, Nat.sub_zero, Nat.add_sub_cancel, Nat.div_one]
  have hl2 : ∀ i ∈ List.range' 0 n 1, i < n := fun i hi => by simpa using (List.mem_range'_1.1 hi).2
  generalize List.range' 0 n 1 = l at hl2 ⊢
  induction l with
  | nil => simp
  | cons i l ih =>
    have hi : i < n := hl2 i (by simp)
    have px : (part 3 (agi xs) (i * 1)).run Try.prog w = .ok (.int .i64 (xs.getD i 0)) w := by
      have hg := agi_get xs i (by omega)
      simp [part, ha, hg]
    have pe : (Op.equalIn (d + 1) 3 (.int .i64 (xs.getD i 0)) (.int .i64 (xs.getD i 0))).run Try.prog w = .ok true w := by
      rw [run_equalIn_int w d 3 .i64 .i64 _ _ Try.underlying3]
      simp
    simp only [List.forIn_cons, Sem.run_bind, px, pe, Result.andThen_ok]
    simp only [Bool.not_true, Bool.false_eq_true, if_false, Sem.run_pure, Result.andThen_ok]
    exact ih fun j hj => hl2 j (by simp [hj])

theorem run_eql_agi {t : TypeId} {n : Nat} (ht : Try.prog.underlying t = some (.array n 3)) (xs : List Int) (hl : xs.length = n) (w : World) :
    (binOp .eql t (.agg (agi xs)) (.agg (agi xs))).run Try.prog w = .ok (.bool true) w := by
  rw [run_eql_struct, run_equalIn_agi 9998 ht xs hl w]
  rfl

/-! An array laid into a new block. -/
theorem Blk.stored {w : World} {g : Nat} {t : TypeId} {cs c2 : Array Value} (h : Blk w g t cs) (o : Obj) : Blk ((w.alloc o).setRow w.heap.size c2) g t cs :=
  Blk.rowFar (Blk.alloc h o) (by have := Blk.lt h; omega)
theorem IB.stored (w : World) (t : TypeId) (zs ys : List Int) : IB ((w.alloc (.cells (agi zs) t)).setRow w.heap.size (agi ys)) w.heap.size t ys := (IB.new w t zs).setRow ys
theorem below_stored (w : World) (o : Obj) (c2 : Array Value) : Below w.heap.size w ((w.alloc o).setRow w.heap.size c2) :=
  below_setRow ((Below.refl _ w).alloc (Nat.le_refl _) o) (Nat.le_refl _) c2
end Go.Proofs.Ytcfmipobgljbeaa

/- The walks of Expand, the program's and the reference's, and of the law LpcExpands. -/
namespace Go.Proofs.Ytcfmipobgljbeaa
set_option linter.unusedVariables false
set_option linter.unusedSimpArgs false
set_option maxRecDepth 100000
open Go.RowKit

def Exps (w : World) (a : List Int) (g : Int) (e : Ending) (w' : World) : Prop := e = .returned (.tuple #[.agg (agi (exL a g)), .int .i64 (errOf (exB a g))]) ∧ Below w.heap.size w w'
theorem exp_bad {w w' : World} {a : List Int} {g : Int} (h : exB a g = false) (hB : Below w.heap.size w w') : Exps w a g (.returned (.tuple #[.agg (agi Z9), .int .i64 2])) w' := by
  refine ⟨?_, hB⟩
  unfold exL errOf
  rw [h]
  rfl
theorem exp_good {w w' : World} {a ys : List Int} {g : Int} (h : exB a g = true) (hl : ys.length = 9) (hy : ∀ j, j < 9 → ys.getD j 0 = exE a g j) (hB : Below w.heap.size w w') : Exps w a g (.returned (.tuple #[.agg (agi ys), .int .i64 0])) w' := by
  refine ⟨?_, hB⟩
  have e : ys = exL a g := by
    apply list_ext (by rw [hl, exL_len])
    intro j hj
    rw [hy j (by omega)]
    unfold exL
    rw [if_pos h, List.getD_eq_getElem?_getD, List.getElem?_map, List.getElem?_range (by omega)]
    rfl
  unfold errOf
  rw [h, e]
  rfl
theorem okA_yes {x : Int} (h1 : -1073741824 ≤ x) (h2 : x ≤ 1073741824) : okA x = true := by unfold okA; simp; omega
theorem okA_no {x : Int} (h : x < -1073741824 ∨ 1073741824 < x) : okA x = false := by unfold okA; simp; omega
theorem exB_g {a : List Int} {g : Int} (h : g < 0 ∨ 32768 < g) : exB a g = false := by unfold exB; simp; omega
theorem exB_a {a : List Int} {g : Int} {k : Nat} (hk : k < a.length) (h : a.getD k 0 < -1073741824 ∨ 1073741824 < a.getD k 0) : exB a g = false := by
  unfold exB; rw [all_no hk (okA_no h)]; simp
theorem exB_yes {a : List Int} {g : Int} (h0 : 0 ≤ g) (h1 : g ≤ 32768) (h : allTo okA a 9) (hl : a.length = 9) : exB a g = true := by
  unfold exB; rw [h.all (by omega)]; simp; omega
theorem ex_prod {x f : Int} (h1 : -1073741824 ≤ x) (h2 : x ≤ 1073741824) (h3 : 0 ≤ f) (h4 : f ≤ 32768) : -35184372088832 ≤ x * f ∧ x * f ≤ 35184372088832 := by
  have := mul_bound (x := x) (X := 1073741824) (y := f) (Y := 32768) (by omega) (by omega) ⟨by omega, by omega⟩ ⟨by omega, by omega⟩
  omega
theorem ex_fprod {f g : Int} (h1 : 0 ≤ f) (h2 : f ≤ 32768) (h3 : 0 ≤ g) (h4 : g ≤ 32768) : 0 ≤ f * g ∧ f * g ≤ 1073741824 := by
  have := mul_bound (x := f) (X := 32768) (y := g) (Y := 32768) (by omega) (by omega) ⟨by omega, by omega⟩ ⟨by omega, by omega⟩
  have := Int.mul_nonneg h1 h3
  omega

/-- The argument's box, the answer's, what lies below untouched. -/
structure Bx2 (t : TypeId) (w wr : World) (a r : List Int) : Prop where
  A : IB wr w.heap.size t a
  R : IB wr (w.heap.size + 1) 23 r
  bel : Below w.heap.size w wr
theorem Bx2.lt {t : TypeId} {w wr : World} {a r : List Int} (h : Bx2 t w wr a r) : w.heap.size + 1 < wr.heap.size := Blk.lt h.R
theorem Bx2.below {t : TypeId} {w wr wr' : World} {a r : List Int} (h : Bx2 t w wr a r) (hb : Below wr.heap.size wr wr') : Bx2 t w wr' a r :=
  ⟨Blk.below' h.A hb, Blk.below' h.R hb, h.bel.trans (hb.mono (by have := h.lt; omega))⟩
theorem Bx2.setCell {t : TypeId} {w wr : World} {a r : List Int} (h : Bx2 t w wr a r) {g : Nat} (hg : w.heap.size + 1 < g) (k : Nat) (v : Value) : Bx2 t w (wr.setCell ⟨g, k, none⟩ v) a r :=
  ⟨Blk.far h.A (by show w.heap.size ≠ g; omega) _, Blk.far h.R (by show w.heap.size + 1 ≠ g; omega) _, h.bel.setCell (p := ⟨g, k, none⟩) (by show w.heap.size ≤ g; omega) _⟩
theorem Bx2.setA {t : TypeId} {w wr : World} {a r : List Int} (h : Bx2 t w wr a r) (k : Nat) (v : Int) : Bx2 t w (wr.setCell ⟨w.heap.size, k, none⟩ (.int .i64 v)) (a.set k v) r :=
  ⟨IB.set_ h.A k v, Blk.far h.R (by show w.heap.size + 1 ≠ w.heap.size; omega) _, h.bel.setCell (p := ⟨w.heap.size, k, none⟩) (Nat.le_refl _) _⟩
theorem Bx2.drew {t : TypeId} {w wr : World} {a r : List Int} (h : Bx2 t w wr a r) : Bx2 t w wr.drew a r := ⟨h.A, h.R, h.bel.drew⟩
theorem Bx2.start (t : TypeId) (w : World) (a : List Int) : Bx2 t w ((w.alloc (.cells (agi a) t)).alloc (.cells (agi Z9) 23)) a Z9 := by
  have h1 := IB.new w t a
  have h2 := IB.new (w.alloc (.cells (agi a) t)) 23 Z9
  simp only [World.size_alloc] at h2
  exact ⟨Blk.alloc h1 _, h2, (((Below.refl _ _).alloc (Nat.le_refl _) _).alloc (by simp) _)⟩

set_option maxHeartbeats 4000000 in
theorem expand_any (a : List Int) (g : Int) (w : World) (ha : a.length = 9) : Calls Try.prog 59 #[.agg (agi a), .int .i64 g] w (Exps w a g) := by
  have I0 := hid (Bx2.start 23 w a)
  have hR := results_row2 (fn := Try.f59) (p := 4) (q := 5) (ty := 23) rfl
  have HA := hid ha
  by_cases h1 : g < 0 ∨ 32768 < g
  · have FIN := hid (exp_bad (a := a) (g := g) (exB_g h1) (below_setRow I0.out.bel (g := w.heap.size + 1) (by omega) (agi Z9)))
    have hRow2 := hid (I0.out.R.setRow Z9)
    clear ha
    rcases h1 with h1 | h1
    · have d1 : decide (g < 0) = true := by simpa using h1
      go_enter Try.func59, Try.ntmps59
      go_wp2_with (refine wpList_storeI rfl 23 (.tmp 4) (.tmp 14) rfl _ 23 Z9 Z9 9 rfl rfl I0.out.R size9 rfl rfl ?_)
      refine bodyPost_ret (v := _) (hR _ _ _ 23 Z9 _ 9 rfl hRow2.out Try.underlying23 rfl size9 rfl) rfl ?_
      exact FIN.out
    · have d1 : decide (g < 0) = false := by simp; omega
      have d2 : decide (32768 < g) = true := by simpa using h1
      go_enter Try.func59, Try.ntmps59
      go_wp2_with (refine wpList_storeI rfl 23 (.tmp 4) (.tmp 14) rfl _ 23 Z9 Z9 9 rfl rfl I0.out.R size9 rfl rfl ?_)
      refine bodyPost_ret (v := _) (hR _ _ _ 23 Z9 _ 9 rfl hRow2.out Try.underlying23 rfl size9 rfl) rfl ?_
      exact FIN.out
  · have h0 : 0 ≤ g := by omega
    have h4 : g ≤ 32768 := by omega
    have d1 : decide (g < 0) = false := by simp; omega
    have d2 : decide (32768 < g) = false := by simp; omega
    have FX := hid (fun k => exF_range h0 h4 k)
    rw [z9_eq] at I0
    clear h1 ha
    go_enter Try.func59, Try.ntmps59
    go_wp2
    go_loopw [6, 15] (fun fv iv wr => ∃ (k : Nat) (ys : List Int) (f : Int), k ≤ 9 ∧ iv = .int .i64 k ∧ fv = .int .i64 f ∧ Hid (f = exF g k ∧ ys.length = 9 ∧ allTo okA a k ∧ (∀ j, j < k → ys.getD j 0 = exE a g j) ∧ ∀ j, k ≤ j → ys.getD j 0 = a.getD j 0) ∧ Hid (Bx2 23 w wr ys Z9)) (fun _ iv _ => 9 - (intOf iv).toNat)
    case atStart => exact ⟨0, a, 32768, by omega, rfl, rfl, hid ⟨rfl, HA.out, allTo.zero, fun j h => by omega, fun j _ => rfl⟩, I0⟩
    case round =>
      clear I0
      obtain ⟨k, ys, f, hk, rfl, rfl, HY, HI⟩ := hrel
      obtain ⟨f0, f1⟩ := FX.out k
      rw [← HY.out.1] at f0 f1
      by_cases hlt : k < 9
      · have ca := HI.out.A.cell k (by rw [HY.out.2.1]; exact hlt)
        have fa := Blk.frozen HI.out.A k
        rw [HY.out.2.2.2.2 k (Nat.le_refl _)] at ca
        obtain ⟨x, hx⟩ : ∃ x, x = a.getD k 0 := ⟨_, rfl⟩
        rw [← hx] at ca
        have HX := hid hx
        clear hx
        by_cases hbad : x < -1073741824 ∨ 1073741824 < x
        · have FIN := hid (exp_bad (a := a) (g := g) (exB_a (k := k) (by rw [HA.out]; exact hlt) (by rw [← HX.out]; exact hbad)) (below_setRow HI.out.bel (g := w.heap.size + 1) (by omega) (agi Z9)))
          have hRow := hid (HI.out.R.setRow Z9)
          rcases hbad with b1 | b1
          · go_wp2_with (refine wpList_storeI rfl 23 (.tmp 4) (.tmp 28) rfl _ 23 Z9 Z9 9 rfl rfl HI.out.R size9 rfl rfl ?_)
            refine bodyPost_ret (v := _) (hR _ _ _ 23 Z9 _ 9 rfl hRow.out Try.underlying23 rfl size9 rfl) rfl ?_
            exact FIN.out
          · have b0 : ¬ x < -1073741824 := by omega
            go_wp2_with (refine wpList_storeI rfl 23 (.tmp 4) (.tmp 28) rfl _ 23 Z9 Z9 9 rfl rfl HI.out.R size9 rfl rfl ?_)
            refine bodyPost_ret (v := _) (hR _ _ _ 23 Z9 _ 9 rfl hRow.out Try.underlying23 rfl size9 rfl) rfl ?_
            exact FIN.out
        · have b1 : -1073741824 ≤ x := by omega
          have b2 : x ≤ 1073741824 := by omega
          obtain ⟨m1, m2⟩ := ex_prod b1 b2 f0 f1
          obtain ⟨m3, m4⟩ := ex_fprod f0 f1 h0 h4
          have NEXT := hid (show Hid ((f * g + 16384) / 32768 = exF g (k + 1) ∧ (ys.set k ((x * f + 16384) / 32768)).length = 9 ∧ allTo okA a (k + 1) ∧ (∀ j, j < k + 1 → (ys.set k ((x * f + 16384) / 32768)).getD j 0 = exE a g j) ∧ ∀ j, k + 1 ≤ j → (ys.set k ((x * f + 16384) / 32768)).getD j 0 = a.getD j 0) from by
            obtain ⟨q0, q1, q2, q3, q4⟩ := HY.out
            refine ⟨by rw [q0]; rfl, by simpa using q1, q2.succ (by rw [← HX.out]; exact okA_yes b1 b2), fun j hj => ?_, fun j hj => ?_⟩
            · by_cases he : k = j
              · subst he
                rw [get_set_same _ _ _ (by omega), exE, ← HX.out, ← q0]
              · rw [get_set_other _ _ he]
                exact q3 j (by omega)
            · rw [get_set_other _ _ (by omega)]
              exact q4 j (by omega))
          have NI := hid (HI.out.setA k ((x * f + 16384) / 32768))
          clear hbad
          go_wp2
          go_roundw
          case rel => exact ⟨k + 1, _, _, by omega, by go_num, rfl, NEXT.out, NI⟩
          case measure => simp [intOf] <;> omega
      · obtain rfl : k = 9 := by omega
        have hg := exB_yes h0 h4 HY.out.2.2.1 HA.out
        have FIN := hid (exp_good hg HY.out.2.1 HY.out.2.2.2.1 (below_setRow HI.out.bel (g := w.heap.size + 1) (by omega) (agi ys)))
        have hRow := hid (HI.out.R.setRow ys)
        clear hlt hg
        go_wp2_with (first
          | (refine wpList_loadI rfl 23 (.tmp 2) rfl _ 23 ys 9 _ rfl HI.out.A Try.underlying23 rfl size9 HY.out.2.1 ?_)
          | (refine wpList_storeI rfl 23 (.tmp 4) (.tmp 44) rfl _ 23 Z9 ys 9 rfl rfl HI.out.R size9 rfl HY.out.2.1 ?_))
        refine bodyPost_ret (v := _) (hR _ _ _ 23 ys _ 9 rfl hRow.out Try.underlying23 rfl size9 HY.out.2.1) rfl ?_
        exact FIN.out
end Go.Proofs.Ytcfmipobgljbeaa

/- The walk of package synth's good, guess and push. -/
namespace Go.Proofs.Ytcfmipobgljbeaa
set_option linter.unusedVariables false
set_option linter.unusedSimpArgs false
set_option maxRecDepth 100000
open Go.RowKit

set_option maxHeartbeats 4000000 in
theorem synthgood_any (a p l : List Int) (A : Option Addr) (c n B : Nat) (w : World) (ha : a.length = 9) (hp : p.length = 8) (hr : Rs w w.heap.size A l) (hn : l.length = n) (hl : n ≤ 17592186044416) :
    Calls Try.prog 112 #[.agg (agi a), .agg (agi p), .slice A n c] w (AnsB w (goodF a p l)) := by
  have hI := hid (IB.new w 23 a)
  have hJ := IB.new (w.alloc (.cells (agi a) 23)) 42 p
  simp only [World.size_alloc] at hJ
  have hJ := hid hJ
  have hI := hid (Blk.alloc hI.out (.cells (agi p) 42))
  have HA := hid ha
  have HP := hid hp
  have HN := hid hn
  have HR := hid (hr.below (((Below.refl _ w).alloc (Nat.le_refl _) (.cells (agi a) 23)).alloc (by simp) (.cells (agi p) 42)))
  have HB := hid (((Below.refl _ w).alloc (Nat.le_refl _) (.cells (agi a) 23)).alloc (by simp) (.cells (agi p) 42))
  have hix := fun (k : Nat) (hk : k < 9) (w : World) => run_index_agi Try.underlying23 a ha k hk w
  have HIX := hid hix
  have hjx := fun (k : Nat) (hk : k < 8) (w : World) => run_index_agi Try.underlying42 p hp k hk w
  have HJX := hid hjx
  clear ha hp hn hr hix hjx
  have c0 := IB.cell hI.out 0 (by rw [HA.out]; omega)
  obtain ⟨a0, ha0⟩ : ∃ a0, a0 = a.getD 0 0 := ⟨_, rfl⟩
  rw [← ha0] at c0
  have HA0 := hid ha0
  have C0 := hid c0
  clear ha0 c0
  go_enter Try.func112, Try.ntmps112
  go_wp2_with (refine wpList_loadI rfl 23 (.tmp 3) rfl _ 23 a 9 _ rfl hI.out Try.underlying23 rfl size9 HA.out ?_)
  go_loop [14] (fun iv => ∃ k : Nat, k ≤ 9 ∧ iv = .int .i64 k ∧ Hid (allTo okP1 a k)) (fun iv => 9 - (intOf iv).toNat)
  case atStart => exact ⟨0, by omega, rfl, hid allTo.zero⟩
  case round =>
    obtain ⟨k, hk, rfl, HY⟩ := hrel
    by_cases hlt : k < 9
    · have hix := HIX.out k hlt
      obtain ⟨x, hx⟩ : ∃ x, x = a.getD k 0 := ⟨_, rfl⟩
      rw [← hx] at hix
      have HX := hid hx
      clear hx
      by_cases b1 : x < -1048576
      · have HF := hid (show okP a = false from all_no (i := k) (by rw [HA.out]; exact hlt) (okP1_no (by rw [← HX.out]; exact .inl b1)))
        go_wp2
        go_ret
        exact ⟨by unfold goodF; rw [HF.out]; rfl, HB.out⟩
      by_cases b2 : 1048576 < x
      · have HF := hid (show okP a = false from all_no (i := k) (by rw [HA.out]; exact hlt) (okP1_no (by rw [← HX.out]; exact .inr b2)))
        go_wp2
        go_ret
        exact ⟨by unfold goodF; rw [HF.out]; rfl, HB.out⟩
      have HN2 := hid (HY.out.succ (by rw [← HX.out]; exact okP1_yes (by omega) (by omega)))
      go_wp2
      go_round
      case rel => exact ⟨k + 1, by omega, by go_num, HN2⟩
      case measure => simp [intOf] <;> omega
    · obtain rfl : k = 9 := by omega
      have HF9 := hid (show okP a = true from HY.out.all (by rw [HA.out]; exact Nat.le_refl _))
      clear hlt HY
      go_wp2_with (refine wpList_loadI rfl 42 (.tmp 4) rfl _ 42 p 8 _ rfl hJ.out Try.underlying42 rfl size8 HP.out ?_)
      go_loop [25] (fun iv => ∃ k : Nat, k ≤ 8 ∧ iv = .int .i64 k ∧ Hid (allTo ok16 p k)) (fun iv => 8 - (intOf iv).toNat)
      case atStart => exact ⟨0, by omega, rfl, hid allTo.zero⟩
      case round =>
        obtain ⟨k, hk, rfl, HY⟩ := hrel
        by_cases hlt : k < 8
        · have hix := HJX.out k hlt
          obtain ⟨x, hx⟩ : ∃ x, x = p.getD k 0 := ⟨_, rfl⟩
          rw [← hx] at hix
          have HX := hid hx
          clear hx
          by_cases hbad : x < -32768 ∨ 32767 < x
          · have HF := hid (show all16 p = false from all_no (i := k) (by rw [HP.out]; exact hlt) (ok16_no (by rw [← HX.out]; exact hbad)))
            have e1 : (x == s16 x) = false := by rw [beq_eq_false_iff_ne]; exact fun h => s16_ne hbad h.symm
            have e2 : (x != s16 x) = true := by rw [bne_iff_ne]; exact fun h => s16_ne hbad h.symm
            clear hbad
            go_wp2_with (go_at_call 113; refine (synthsat_any _ _).mono ?_; rintro e w' ⟨rfl, rfl⟩)
            go_ret
            exact ⟨by unfold goodF; rw [HF.out]; simp, HB.out⟩
          · have HN2 := hid (HY.out.succ (by rw [← HX.out]; exact ok16_yes (by omega) (by omega)))
            have e0 := s16_id (x := x) (by omega) (by omega)
            clear hbad
            go_wp2_with (go_at_call 113; refine (synthsat_any _ _).mono ?_; rintro e w' ⟨rfl, rfl⟩)
            go_round
            case rel => exact ⟨k + 1, by omega, by go_num, HN2⟩
            case measure => simp [intOf] <;> omega
        · obtain rfl : k = 8 := by omega
          have HF8 := hid (show all16 p = true from HY.out.all (by rw [HP.out]; exact Nat.le_refl _))
          clear hlt HY
          go_wp2
          go_loop [35] (fun iv => ∃ k : Nat, k ≤ n ∧ iv = .int .i64 k ∧ Hid (allTo ok16 l k)) (fun iv => n - (intOf iv).toNat)
          case atStart => exact ⟨0, by omega, rfl, hid allTo.zero⟩
          case round =>
            obtain ⟨k, hk, rfl, HY⟩ := hrel
            by_cases hlt : k < n
            · obtain ⟨ad, rfl, _, c1⟩ := HR.out.at_ (k := k) (by rw [HN.out]; exact hlt)
              obtain ⟨x, hx⟩ : ∃ x, x = l.getD k 0 := ⟨_, rfl⟩
              rw [← hx] at c1
              have HX := hid hx
              clear hx
              by_cases hbad : x < -32768 ∨ 32767 < x
              · have HF := hid (show all16 l = false from all_no (i := k) (by rw [HN.out]; exact hlt) (ok16_no (by rw [← HX.out]; exact hbad)))
                have e1 : (x == s16 x) = false := by rw [beq_eq_false_iff_ne]; exact fun h => s16_ne hbad h.symm
                have e2 : (x != s16 x) = true := by rw [bne_iff_ne]; exact fun h => s16_ne hbad h.symm
                clear hbad
                go_wp2_with (go_at_call 113; refine (synthsat_any _ _).mono ?_; rintro e w' ⟨rfl, rfl⟩)
                go_ret
                exact ⟨by unfold goodF; rw [HF.out]; simp, HB.out⟩
              · have HN2 := hid (HY.out.succ (by rw [← HX.out]; exact ok16_yes (by omega) (by omega)))
                have e0 := s16_id (x := x) (by omega) (by omega)
                clear hbad
                go_wp2_with (go_at_call 113; refine (synthsat_any _ _).mono ?_; rintro e w' ⟨rfl, rfl⟩)
                go_round
                case rel => exact ⟨k + 1, by omega, by go_num, HN2⟩
                case measure => simp [intOf] <;> omega
            · have HF := hid (show all16 l = true from HY.out.all (by rw [HN.out]; omega))
              have c0 := C0.out
              go_wp2
              go_ret
              exact ⟨by unfold goodF; rw [HF9.out, HF8.out, HF.out, ← HA0.out]; simp only [Bool.true_and, Bool.and_true]; rfl, HB.out⟩

set_option maxHeartbeats 2000000 in
theorem synthguess_any (a p : List Int) (w : World) (ha : a.length = 9) (hp : p.length = 8) (oa : okP a = true) (op : all16 p = true) :
    Calls Try.prog 114 #[.agg (agi a), .agg (agi p)] w fun e w' => e = .returned (.int .i64 (guessL a p)) ∧ Below w.heap.size w w' := by
  have hI := hid (IB.new w 23 a)
  have hJ := IB.new (w.alloc (.cells (agi a) 23)) 42 p
  simp only [World.size_alloc] at hJ
  have hJ := hid hJ
  have hI := hid (Blk.alloc hI.out (.cells (agi p) 42))
  have HA := hid ha
  have HP := hid hp
  have HB := hid (((Below.refl _ w).alloc (Nat.le_refl _) (.cells (agi a) 23)).alloc (by simp) (.cells (agi p) 42))
  have hjx := fun (k : Nat) (hk : k < 8) (w : World) => run_index_agi Try.underlying42 p hp k hk w
  have HJX := hid hjx
  have OA := hid oa
  have OP := hid op
  clear ha hp hjx oa op
  go_enter Try.func114, Try.ntmps114
  go_wp2_with (refine wpList_loadI rfl 42 (.tmp 3) rfl _ 42 p 8 _ rfl hJ.out Try.underlying42 rfl size8 HP.out ?_)
  go_loop [5, 9] (fun sv iv => ∃ (k : Nat) (s : Int), k ≤ 8 ∧ iv = .int .i64 k ∧ sv = .int .i64 s ∧ Hid (s = 2048 + sumN (gterm a p) k)) (fun _ iv => 8 - (intOf iv).toNat)
  case atStart => exact ⟨0, 2048, by omega, rfl, rfl, hid rfl⟩
  case round =>
    obtain ⟨k, s, hk, rfl, rfl, HS⟩ := hrel
    by_cases hlt : k < 8
    · have hjx := HJX.out k hlt
      have ci := IB.cell hI.out (k + 1) (by rw [HA.out]; omega)
      have tb := gterm_bound OA.out OP.out k
      have sb := gsum_bound OA.out OP.out k
      have HT := hid (show 2048 + sumN (gterm a p) (k + 1) = s + gterm a p k by rw [HS.out]; simp only [sumN]; omega)
      have hs := HS.out
      have s1 : -300000000000 ≤ s := by omega
      have s2 : s ≤ 300000000000 := by omega
      clear hs sb
      unfold gterm at tb HT
      generalize a.getD (k + 1) 0 = x at *
      generalize p.getD k 0 = y at *
      obtain ⟨t1, t2⟩ := tb
      have HS2 := hid (show s + x * y = 2048 + sumN (fun i => a.getD (i + 1) 0 * p.getD i 0) (k + 1) from HT.out.symm)
      clear HT HS
      go_wp2
      go_round
      case rel => exact ⟨k + 1, _, by omega, by go_num, rfl, HS2⟩
      case measure => simp [intOf] <;> omega
    · obtain rfl : k = 8 := by omega
      have HF := hid (show s / 4096 = guessL a p by unfold guessL; rw [HS.out])
      go_wp2
      go_ret
      exact ⟨by rw [← HF.out]; rfl, HB.out⟩
end Go.Proofs.Ytcfmipobgljbeaa

/- copy into a row of numbers that is known whole, as a step of a drawing region; an answer that lies in a block. -/
namespace Go.Proofs.Ytcfmipobgljbeaa
set_option linter.unusedVariables false
set_option linter.unusedSimpArgs false
set_option maxRecDepth 100000
open Go.RowKit

theorem infoSz : (Try.prog.info? 3).map (·.size) = some 1 := by kernel_rfl

theorem step_copyI {ops : Array Oper} {o : Oper} {a : Act} {w : World} {K : Act → World → Prop} {Q : Exit → Act → World → Prop} {E : Prop} (hgd : o.guard = none) (d s : Operand) (dT sT : TypeId)
    (ho : o.op = .call { callee := .builtin .copy, args := #[d, s], argTypes := #[dT, sT] }) (hu : Try.prog.underlying dT = some (.slice 3))
    (g off dLen dCap : Nat) (ad : Addr) (sLen sCap : Nat) (hd : a.eval d = .slice (some ⟨g, off, none⟩) dLen dCap) (hs : a.eval s = .slice (some ad) sLen sCap)
    (t : TypeId) (xs ys zs : List Int) (hg : IB w g t xs) (hn : ys.length = Nat.min sLen dLen) (hsrc : ∀ j, j < ys.length → w.cell? (ad.add j) = some (.int .i64 (ys.getD j 0)))
    (hfit : off + ys.length ≤ xs.length) (hz : zs = xs.take off ++ ys ++ xs.drop (off + ys.length))
    (h : K (a.put o.dst (goInt ys.length)) (w.setRow g (agi zs))) :
    if Region.wanted o (yielded ops a.tmps) = true then Oper.wp Try.prog o a w K Q else E := by
  have hw : Region.wanted o (yielded ops a.tmps) = true := by simp [Region.wanted, hgd]
  rw [if_pos hw]
  have hrun := run_copy_row (P := Try.prog) w dT sT o.type 3 g off dLen dCap ad sLen sCap (agi xs) t (ints ys) hu infoSz hg (by rw [ints_len]; exact hn)
    (fun j v hv => by
      have hj : j < ys.length := by
        have := (List.getElem?_eq_some_iff.mp hv).1
        rwa [ints_len] at this
      rw [ints_get ys j hj] at hv
      rw [← hv]
      exact hsrc j hj) (by rw [ints_len, agi_size]; exact hfit) (ints_one ys)
  have e : ((agi xs).toList.take off ++ ints ys ++ (agi xs).toList.drop (off + (ints ys).length)).toArray = agi zs := by
    subst hz
    simp [agi, ints, List.map_take, List.map_drop]
  rw [e, ints_len] at hrun
  unfold Oper.wp
  simp [execOp, ho, resolve, invoke, builtin, hd, hs, hrun, Result.andThen]
  exact h

/-- The answer of a function whose one result lies in a block. -/
theorem results_row1 {fn : Func} {p : Tmp} {ty : TypeId} (h : fn.results = #[.cell p ty]) (tmps : Array Value) (w : World) (g : Nat) (t : TypeId) (xs : List Int) (d : TypeDesc) (n : Nat)
    (hp : tmps.getD p undef = .pointer (some ⟨g, 0, none⟩)) (hg : IB w g t xs) (hu : Try.prog.underlying ty = some d) (hd : isAggD d = true) (hi : (Try.prog.info? ty).map (·.size) = some n) (hl : xs.length = n) :
    (results fn tmps).run Try.prog w = .ok (.agg (agi xs)) w := by
  have hp' : tmps[p]?.getD undef = .pointer (some ⟨g, 0, none⟩) := by simpa using hp
  have hr := run_loadVar_row (P := Try.prog) w g t ty (agi xs) (0, 0) d hg hu (by cases d <;> first | rfl | (simp [isAggD] at hd)) (by rw [hi, agi_size, hl])
  simp [results, h, hp', asAddr, hr]
end Go.Proofs.Ytcfmipobgljbeaa

/- The walk of package synth's push. -/
namespace Go.Proofs.Ytcfmipobgljbeaa
set_option linter.unusedVariables false
set_option linter.unusedSimpArgs false
set_option maxRecDepth 100000
open Go.RowKit

set_option maxHeartbeats 2000000 in
theorem synthpush_any (p : List Int) (x : Int) (w : World) (hp : p.length = 8) :
    Calls Try.prog 115 #[.agg (agi p), .int .i64 x] w fun e w' => e = .returned (.agg (agi (pushL p x))) ∧ Below w.heap.size w w' := by
  have hR := results_row1 (fn := Try.f115) (p := 4) (ty := 42) rfl
  have I0 := IB.new w 42 p
  have HA := hid (Blk.alloc I0 (.cells (agi Z8) 42))
  have J0 := IB.new (w.alloc (.cells (agi p) 42)) 42 Z8
  simp only [World.size_alloc] at J0
  have HJ := hid J0
  have HB := hid (((Below.refl _ w).alloc (Nat.le_refl _) (.cells (agi p) 42)).alloc (by simp) (.cells (agi Z8) 42))
  rw [z8_eq] at HA HJ HB
  have HP := hid hp
  have hl7 : (p.take 7).length = 7 := by simp [hp]
  have L7 := hid hl7
  obtain ⟨zs, hz⟩ : ∃ zs, zs = p.take 1 ++ p.take 7 ++ p.drop (1 + (p.take 7).length) := ⟨_, rfl⟩
  have hzs : zs.set 0 x = pushL p x := by
    rw [hz, hl7]
    have e8 : p.drop 8 = [] := List.drop_eq_nil_of_le (by omega)
    rw [e8]
    match p, hp with
    | a :: q, _ => simp [pushL]
  have hzl : zs.length = 8 := by rw [hz, hl7]; simp; omega
  have HZ := hid hz
  have HZS := hid hzs
  have HZL := hid hzl
  have c7 : ∀ j, j < 7 → (p.take 7).getD j 0 = p.getD j 0 := fun j hj => by simp [hj]
  have C7 := hid c7
  clear hp hl7 hz hzs hzl c7 I0 J0
  go_enter Try.func115, Try.ntmps115
  go_wp2
  go_region_law (refine step_copyI rfl (.tmp 5) (.tmp 6) 22 22 rfl Try.underlying22 w.heap.size 1 7 7 ⟨w.heap.size, 0, none⟩ 7 8 (by simp [Act.eval, Act.put]) (by simp [Act.eval, Act.put]) 42 p (p.take 7) zs HA.out (by rw [L7.out]; rfl) (fun j hj => by rw [add_zero']; rw [L7.out] at hj; rw [C7.out j hj]; exact IB.cell HA.out j (by rw [HP.out]; omega)) (by rw [L7.out, HP.out]; omega) HZ.out ?_)
  generalize hw4 : World.setRow _ _ _ = w4
  have IA : IB w4 w.heap.size 42 zs := by rw [← hw4]; exact IB.setRow (Blk.drew HA.out) zs
  have IJ : IB w4 (w.heap.size + 1) 42 Z8 := by rw [← hw4]; exact Blk.rowFar (Blk.drew HJ.out) (by omega)
  have IL : Below w.heap.size w w4 := by rw [← hw4]; exact (Below.drew HB.out).trans (below_setRow (Below.refl _ _) (Nat.le_refl _) _)
  have IA := hid IA
  have IJ := hid IJ
  have IL := hid IL
  clear hw4 HA HJ HB
  have c0 := IB.cell IA.out 0 (by rw [HZL.out]; omega)
  have f0 := Blk.frozen IA.out 0
  have IA2 := hid (show IB (w4.setCell ⟨w.heap.size, 0, none⟩ (.int .i64 x)) w.heap.size 42 (pushL p x) by rw [← HZS.out]; exact IB.set_ IA.out 0 x)
  have IJ2 := hid (show IB (w4.setCell ⟨w.heap.size, 0, none⟩ (.int .i64 x)) (w.heap.size + 1) 42 Z8 from Blk.far IJ.out (by show w.heap.size + 1 ≠ w.heap.size; omega) _)
  have IL2 := hid (IL.out.setCell (p := ⟨w.heap.size, 0, none⟩) (Nat.le_refl _) (.int .i64 x))
  have LP := hid (pushL_len HP.out x)
  have FIN := hid (below_setRow IL2.out (g := w.heap.size + 1) (by omega) (agi (pushL p x)))
  have hRow := hid (IB.setRow IJ2.out (pushL p x))
  go_wp2_with (first
    | (refine wpList_loadI rfl 42 (.tmp 2) rfl _ 42 (pushL p x) 8 _ rfl IA2.out Try.underlying42 rfl size8 LP.out ?_)
    | (refine wpList_storeI rfl 42 (.tmp 4) (.tmp 10) rfl _ 42 Z8 (pushL p x) 8 rfl rfl IJ2.out size8 rfl LP.out ?_))
  refine bodyPost_ret (v := _) (hR _ _ _ 42 (pushL p x) _ 8 rfl hRow.out Try.underlying42 rfl size8 LP.out) rfl ?_
  exact ⟨rfl, FIN.out⟩
end Go.Proofs.Ytcfmipobgljbeaa

/- The walks of package synth's Make and Undo. -/
namespace Go.Proofs.Ytcfmipobgljbeaa
set_option linter.unusedVariables false
set_option linter.unusedSimpArgs false
set_option maxRecDepth 100000
open Go.RowKit

/-- The answer: a slice, an array in a block, a number. -/
theorem results_mid3 {fn : Func} {p q r : Tmp} {ty : TypeId} (h : fn.results = #[.tmp p, .cell q ty, .tmp r]) (tmps : Array Value) (w : World) (g : Nat) (t : TypeId) (xs : List Int) (d : TypeDesc) (n : Nat)
    (hp : tmps.getD q undef = .pointer (some ⟨g, 0, none⟩)) (hg : IB w g t xs) (hu : Try.prog.underlying ty = some d) (hd : isAggD d = true) (hi : (Try.prog.info? ty).map (·.size) = some n) (hl : xs.length = n) :
    (results fn tmps).run Try.prog w = .ok (.tuple #[tmps.getD p undef, .agg (agi xs), tmps.getD r undef]) w := by
  have hp' : tmps[q]?.getD undef = .pointer (some ⟨g, 0, none⟩) := by simpa using hp
  have hr := run_loadVar_row (P := Try.prog) w g t ty (agi xs) (0, 0) d hg hu (by cases d <;> first | rfl | (simp [isAggD] at hd)) (by rw [hi, agi_size, hl])
  simp [results, h, hp', asAddr, hr]

def NewSP (w : World) (ys q : List Int) (er : Int) (e : Ending) (w' : World) : Prop := ∃ A c, e = .returned (.tuple #[.slice A ys.length c, .agg (agi q), .int .i64 er]) ∧ Own w' w.heap.size A c ys ∧ Below w.heap.size w w'

/-- The three boxes: the predictor, the past, the answer's past. -/
structure Sx (w wr : World) (a q : List Int) : Prop where
  A : IB wr w.heap.size 23 a
  P : IB wr (w.heap.size + 1) 42 q
  R : IB wr (w.heap.size + 2) 42 Z8
  bel : Below w.heap.size w wr
theorem Sx.lt {w wr : World} {a q : List Int} (h : Sx w wr a q) : w.heap.size + 3 ≤ wr.heap.size := Blk.lt h.R
theorem Sx.below {w wr wr' : World} {a q : List Int} (h : Sx w wr a q) (hb : Below wr.heap.size wr wr') : Sx w wr' a q :=
  ⟨Blk.below' h.A hb, Blk.below' h.P hb, Blk.below' h.R hb, h.bel.trans (hb.mono (by have := h.lt; omega))⟩
theorem Sx.alloc {w wr : World} {a q : List Int} (h : Sx w wr a q) (o : Obj) : Sx w (wr.alloc o) a q :=
  ⟨Blk.alloc h.A o, Blk.alloc h.P o, Blk.alloc h.R o, h.bel.alloc (by have := h.lt; omega) o⟩
theorem Sx.setP {w wr : World} {a q : List Int} (h : Sx w wr a q) (q2 : List Int) : Sx w (wr.setRow (w.heap.size + 1) (agi q2)) a q2 :=
  ⟨Blk.rowFar h.A (by omega), IB.setRow h.P q2, Blk.rowFar h.R (by omega), below_setRow h.bel (by omega) _⟩
theorem Sx.drew {w wr : World} {a q : List Int} (h : Sx w wr a q) : Sx w wr.drew a q := ⟨h.A, h.P, h.R, h.bel.drew⟩
theorem Sx.start (w : World) (a q : List Int) : Sx w (((w.alloc (.cells (agi a) 23)).alloc (.cells (agi q) 42)).alloc (.cells (agi Z8) 42)) a q := by
  have h1 := IB.new w 23 a
  have h2 := IB.new (w.alloc (.cells (agi a) 23)) 42 q
  have h3 := IB.new ((w.alloc (.cells (agi a) 23)).alloc (.cells (agi q) 42)) 42 Z8
  simp only [World.size_alloc] at h2 h3
  exact ⟨Blk.alloc (Blk.alloc h1 _) _, Blk.alloc h2 _, h3, ((((Below.refl _ _).alloc (Nat.le_refl _) _).alloc (by simp) _).alloc (by simp; omega) _)⟩
theorem Sx.grown {w wr wr' : World} {a q xs : List Int} {A : Option Addr} {c : Nat} (h : Sx w wr a q) (hO : Own wr (w.heap.size + 3) A c xs) (hG : wr.grownBy wr' (A.map (·.block))) : Sx w wr' a q :=
  ⟨Blk.grownA h.A hG (hO.ne_ (by omega)), Blk.grownA h.P hG (hO.ne_ (by omega)), Blk.grownA h.R hG (hO.ne_ (by omega)),
    below_grown h.bel (hO.more (by omega)) hG (by have := h.lt; omega)⟩

theorem list8 {q : List Int} (h : q.length = 8) : ∃ q0 q1 q2 q3 q4 q5 q6 q7, q = [q0, q1, q2, q3, q4, q5, q6, q7] := by
  match q, h with
  | [a, b, c, d, e, f, g, i], _ => exact ⟨a, b, c, d, e, f, g, i, rfl⟩
theorem IB.set8 {w : World} {g : Nat} {t : TypeId} (h : IB w g t Z8) (q0 q1 q2 q3 q4 q5 q6 q7 : Int) :
    IB ((((((((w.setCell ⟨g, 0, none⟩ (.int .i64 q0)).setCell ⟨g, 1, none⟩ (.int .i64 q1)).setCell ⟨g, 2, none⟩ (.int .i64 q2)).setCell ⟨g, 3, none⟩ (.int .i64 q3)).setCell ⟨g, 4, none⟩ (.int .i64 q4)).setCell ⟨g, 5, none⟩ (.int .i64 q5)).setCell ⟨g, 6, none⟩ (.int .i64 q6)).setCell ⟨g, 7, none⟩ (.int .i64 q7)) g t [q0, q1, q2, q3, q4, q5, q6, q7] :=
  (((((((h.set_ 0 q0).set_ 1 q1).set_ 2 q2).set_ 3 q3).set_ 4 q4).set_ 5 q5).set_ 6 q6).set_ 7 q7
theorem below_set8 {w0 w : World} {B g : Nat} (h : Below B w0 w) (hg : B ≤ g) (q0 q1 q2 q3 q4 q5 q6 q7 : Int) :
    Below B w0 ((((((((w.setCell ⟨g, 0, none⟩ (.int .i64 q0)).setCell ⟨g, 1, none⟩ (.int .i64 q1)).setCell ⟨g, 2, none⟩ (.int .i64 q2)).setCell ⟨g, 3, none⟩ (.int .i64 q3)).setCell ⟨g, 4, none⟩ (.int .i64 q4)).setCell ⟨g, 5, none⟩ (.int .i64 q5)).setCell ⟨g, 6, none⟩ (.int .i64 q6)).setCell ⟨g, 7, none⟩ (.int .i64 q7)) :=
  (((((((h.setCell (p := ⟨g, 0, none⟩) hg _).setCell (p := ⟨g, 1, none⟩) hg _).setCell (p := ⟨g, 2, none⟩) hg _).setCell (p := ⟨g, 3, none⟩) hg _).setCell (p := ⟨g, 4, none⟩) hg _).setCell (p := ⟨g, 5, none⟩) hg _).setCell (p := ⟨g, 6, none⟩) hg _).setCell (p := ⟨g, 7, none⟩) hg _
theorem Own.set8 {w : World} {base c g : Nat} {A : Option Addr} {xs : List Int} (h : Own w base A c xs) (hg : g < base) (q0 q1 q2 q3 q4 q5 q6 q7 : Int) :
    Own ((((((((w.setCell ⟨g, 0, none⟩ (.int .i64 q0)).setCell ⟨g, 1, none⟩ (.int .i64 q1)).setCell ⟨g, 2, none⟩ (.int .i64 q2)).setCell ⟨g, 3, none⟩ (.int .i64 q3)).setCell ⟨g, 4, none⟩ (.int .i64 q4)).setCell ⟨g, 5, none⟩ (.int .i64 q5)).setCell ⟨g, 6, none⟩ (.int .i64 q6)).setCell ⟨g, 7, none⟩ (.int .i64 q7)) base A c xs :=
  (((((((h.setC hg 0 _).setC hg 1 _).setC hg 2 _).setC hg 3 _).setC hg 4 _).setC hg 5 _).setC hg 6 _).setC hg 7 _

set_option maxHeartbeats 4000000 in
theorem synthMake_any (a p l : List Int) (A0 : Option Addr) (c0 n : Nat) (w : World) (ha : a.length = 9) (hp : p.length = 8) (hr : Rs w w.heap.size A0 l) (hn : l.length = n) (hl : n ≤ 17592186044000) :
    Calls Try.prog 91 #[.agg (agi a), .agg (agi p), .slice A0 n c0] w (NewSP w (if goodF a p l then makeN a p l n else []) (if goodF a p l then newL p (makeN a p l n) else Z8) (errOf (goodF a p l))) := by
  have hR := results_mid3 (fn := Try.f91) (p := 6) (q := 7) (r := 8) (ty := 42) rfl
  have S0 := Sx.start w a p
  have R0 := hr.below S0.bel
  rw [z8_eq] at S0
  rw [z8_eq] at R0
  have S0 := hid S0
  have R0 := hid R0
  have HA := hid ha
  have HP := hid hp
  have HN := hid hn
  have HR := hid hr
  have KG := hid (fun (W : World) (hW : Rs W W.heap.size A0 l) => synthgood_any a p l A0 c0 n 0 W ha hp hW hn (by omega))
  clear ha hp hn hr
  obtain ⟨Y, hY⟩ : ∃ Y, Y = (if goodF a p l then makeN a p l n else []) := ⟨_, rfl⟩
  obtain ⟨Z, hZ⟩ : ∃ Z, Z = (if goodF a p l then newL p (makeN a p l n) else Z8) := ⟨_, rfl⟩
  rw [← hY, ← hZ]
  have HYY := hid hY
  have HZZ := hid hZ
  clear hY hZ
  go_enter Try.func91, Try.ntmps91
  go_wp2_with (first
    | (refine wpList_loadI rfl 23 (.tmp 3) rfl _ 23 a 9 _ rfl S0.out.A Try.underlying23 rfl size9 HA.out ?_)
    | (refine wpList_loadI rfl 42 (.tmp 4) rfl _ 42 p 8 _ rfl S0.out.P Try.underlying42 rfl size8 HP.out ?_))
  refine (KG.out _ (R0.out.more (by simp; omega))).mono ?_
  rintro e w1 ⟨rfl, hB⟩
  have S1 := hid (S0.out.below hB)
  clear hB S0 R0 KG
  by_cases hg : goodF a p l = true
  · have HG := hid hg
    rw [hg]
    have y1 := HYY.out
    have z1 := HZZ.out
    rw [if_pos hg] at y1 z1
    have HY1 := hid y1
    have HZ1 := hid z1
    clear y1 z1
    obtain ⟨ga, gz, gp, gl⟩ : okP a = true ∧ a.getD 0 0 = 4096 ∧ all16 p = true ∧ all16 l = true := by simpa [goodF] using hg
    have GA := hid ga
    have GP := hid gp
    have GL := hid gl
    clear hg ga gz gp gl
    go_wp2
    go_loopw [9, 21] (fun ov iv wr => ∃ (k : Nat) (A : Option Addr) (c : Nat) (q ys : List Int), k ≤ n ∧ iv = .int .i64 k ∧ ov = .slice A k c ∧ Hid (ys = makeN a p l k) ∧ Hid (q = newL p (makeN a p l k)) ∧ Hid (Own wr (w.heap.size + 3) A c ys) ∧ Hid (Sx w wr a q)) (fun _ iv _ => n - (intOf iv).toNat)
    case atStart => exact ⟨0, none, 0, p, [], by omega, rfl, rfl, hid rfl, hid rfl, hid Own.nil, S1⟩
    case round =>
      clear S1
      obtain ⟨k, A, c, q, ys, hk, rfl, rfl, HY, HQ, HO, HS⟩ := hrel
      have HQL := hid (show q.length = 8 by rw [HQ.out]; exact newL_len _ _ HP.out)
      by_cases hlt : k < n
      · have q16 := hid (show all16 q = true by rw [HQ.out]; exact newL_all _ _ GP.out (makeN_all _ _ _ _))
        obtain ⟨ad, rfl, hadb, c1⟩ := (HR.out.below HS.out.bel).at_ (k := k) (by rw [HN.out]; exact hlt)
        have xb := all16_at GL.out k
        have YN := hid (show ys ++ [s16 (l.getD k 0 - guessL a q)] = makeN a p l (k + 1) by rw [makeN, ← HY.out, HQ.out, HY.out])
        obtain ⟨x, hx⟩ : ∃ x, x = l.getD k 0 := ⟨_, rfl⟩
        rw [← hx] at c1 xb YN
        have gb := guess_bound GA.out q16.out
        have K1 := hid (fun W => synthguess_any a q W HA.out HQL.out GA.out q16.out)
        generalize guessL a q = g at *
        obtain ⟨x1, x2⟩ := xb
        obtain ⟨g1, g2⟩ := gb
        have hw1 : IntKind.i64.wrap (x - g) = x - g := by rw [IntKind.wrap_i64]; omega
        obtain ⟨y, hy⟩ : ∃ y, y = s16 (x - g) := ⟨_, rfl⟩
        rw [← hy] at YN
        have KS := hid (fun W => synthsat_any (x - g) W)
        rw [← hy] at KS
        have QN := hid (show pushL q y = newL p (makeN a p l (k + 1)) by rw [← YN.out, HY.out, newL_snoc, HQ.out])
        have LP := hid (pushL_len HQL.out y)
        have HX := hid hx
        have YL := hid (show ys.length = k by rw [HY.out, makeN_len])
        clear hx hy
        go_wp2_with (first
          | (refine wpList_loadI rfl 23 (.tmp 3) rfl _ 23 a 9 _ rfl HS.out.A Try.underlying23 rfl size9 HA.out ?_)
          | (refine wpList_loadI rfl 42 (.tmp 4) rfl _ 42 q 8 _ rfl HS.out.P Try.underlying42 rfl size8 HQL.out ?_))
        refine (K1.out _).mono ?_
        rintro e w2 ⟨rfl, hB⟩
        have S2 := hid (HS.out.below hB)
        have O2 := hid (HO.out.below hB)
        clear hB HS HO c1
        go_wp2_with (first
          | (go_at_call 113; refine (KS.out _).mono ?_; rintro e w' ⟨rfl, rfl⟩)
          | (refine wpList_loadI rfl 42 (.tmp 4) rfl _ 42 q 8 _ rfl S2.out.P Try.underlying42 rfl size8 HQL.out ?_))
        refine (synthpush_any q y _ HQL.out).mono ?_
        rintro e w3 ⟨rfl, hB⟩
        have S3 := hid (S2.out.below hB)
        have O3 := hid (O2.out.below hB)
        clear hB S2 O2
        go_wp2_with (first
          | (refine wpList_storeI rfl 42 (.tmp 4) (.tmp 33) rfl _ 42 q (pushL q y) 8 rfl rfl S3.out.P size8 HQL.out LP.out ?_
             obtain ⟨w4, hw4⟩ : ∃ w4, w4 = w3.setRow (w.heap.size + 1) (agi (pushL q y)) := ⟨_, rfl⟩
             rw [← hw4]
             have S4 := hid (show Sx w w4 a (pushL q y) by rw [hw4]; exact S3.out.setP _)
             have O4 := hid (show Own w4 (w.heap.size + 3) A c ys by rw [hw4]; exact O3.out.setRow (by omega) _)
             clear hw4)
          | (at_builtin; refine wpList_pushN rfl (.tmp 34) (.tmp 36) rfl (w.heap.size + 3) A c k ys rfl YL.out (O4.out.alloc _) ⟨w4.heap.size, 0, none⟩ y rfl (cell_new w4 _ _) (by omega) (Nat.le_trans S4.out.lt (by simp)) ?_; intro A2 c2 w5 hO hG hA; have O5 := hid hO; have G5 := hid hG; clear hO hG hA))
        have S5 := hid ((S4.out.alloc _).grown (O4.out.alloc _) G5.out)
        go_wp2
        go_roundw
        case rel => exact ⟨k + 1, A2, c2, _, _, by omega, by go_num, rfl, YN, QN, O5, S5⟩
        case measure => simp [intOf] <;> omega
      · obtain rfl : k = n := by omega
        obtain ⟨q0, q1, q2, q3, q4, q5, q6, q7, rfl⟩ := list8 HQL.out
        have c0 : wr.cell? ⟨w.heap.size + 1, 0, none⟩ = some (.int .i64 q0) := IB.cell HS.out.P 0 (by simp)
        have c1 : wr.cell? ⟨w.heap.size + 1, 1, none⟩ = some (.int .i64 q1) := IB.cell HS.out.P 1 (by simp)
        have c2 : wr.cell? ⟨w.heap.size + 1, 2, none⟩ = some (.int .i64 q2) := IB.cell HS.out.P 2 (by simp)
        have c3 : wr.cell? ⟨w.heap.size + 1, 3, none⟩ = some (.int .i64 q3) := IB.cell HS.out.P 3 (by simp)
        have c4 : wr.cell? ⟨w.heap.size + 1, 4, none⟩ = some (.int .i64 q4) := IB.cell HS.out.P 4 (by simp)
        have c5 : wr.cell? ⟨w.heap.size + 1, 5, none⟩ = some (.int .i64 q5) := IB.cell HS.out.P 5 (by simp)
        have c6 : wr.cell? ⟨w.heap.size + 1, 6, none⟩ = some (.int .i64 q6) := IB.cell HS.out.P 6 (by simp)
        have c7 : wr.cell? ⟨w.heap.size + 1, 7, none⟩ = some (.int .i64 q7) := IB.cell HS.out.P 7 (by simp)
        have r0 : wr.cell? ⟨w.heap.size + 1 + 1, 0, none⟩ = some (.int .i64 0) := IB.cell HS.out.R 0 (by decide)
        have r1 : wr.cell? ⟨w.heap.size + 1 + 1, 1, none⟩ = some (.int .i64 0) := IB.cell HS.out.R 1 (by decide)
        have r2 : wr.cell? ⟨w.heap.size + 1 + 1, 2, none⟩ = some (.int .i64 0) := IB.cell HS.out.R 2 (by decide)
        have r3 : wr.cell? ⟨w.heap.size + 1 + 1, 3, none⟩ = some (.int .i64 0) := IB.cell HS.out.R 3 (by decide)
        have r4 : wr.cell? ⟨w.heap.size + 1 + 1, 4, none⟩ = some (.int .i64 0) := IB.cell HS.out.R 4 (by decide)
        have r5 : wr.cell? ⟨w.heap.size + 1 + 1, 5, none⟩ = some (.int .i64 0) := IB.cell HS.out.R 5 (by decide)
        have r6 : wr.cell? ⟨w.heap.size + 1 + 1, 6, none⟩ = some (.int .i64 0) := IB.cell HS.out.R 6 (by decide)
        have r7 : wr.cell? ⟨w.heap.size + 1 + 1, 7, none⟩ = some (.int .i64 0) := IB.cell HS.out.R 7 (by decide)
        have f0 : wr.frozen? ⟨w.heap.size + 1 + 1, 0, none⟩ = false := Blk.frozen HS.out.R 0
        have f1 : wr.frozen? ⟨w.heap.size + 1 + 1, 1, none⟩ = false := Blk.frozen HS.out.R 1
        have f2 : wr.frozen? ⟨w.heap.size + 1 + 1, 2, none⟩ = false := Blk.frozen HS.out.R 2
        have f3 : wr.frozen? ⟨w.heap.size + 1 + 1, 3, none⟩ = false := Blk.frozen HS.out.R 3
        have f4 : wr.frozen? ⟨w.heap.size + 1 + 1, 4, none⟩ = false := Blk.frozen HS.out.R 4
        have f5 : wr.frozen? ⟨w.heap.size + 1 + 1, 5, none⟩ = false := Blk.frozen HS.out.R 5
        have f6 : wr.frozen? ⟨w.heap.size + 1 + 1, 6, none⟩ = false := Blk.frozen HS.out.R 6
        have f7 : wr.frozen? ⟨w.heap.size + 1 + 1, 7, none⟩ = false := Blk.frozen HS.out.R 7
        have IR := hid (Blk.drew (IB.set8 HS.out.R q0 q1 q2 q3 q4 q5 q6 q7))
        have OR := hid ((HO.out.set8 (g := w.heap.size + 2) (by omega) q0 q1 q2 q3 q4 q5 q6 q7).drew.more (base' := w.heap.size) (by omega))
        have BR := hid (below_set8 HS.out.bel (g := w.heap.size + 2) (by omega) q0 q1 q2 q3 q4 q5 q6 q7).drew
        have FY := hid (show Y = ys by rw [HY1.out, HY.out])
        have FZ := hid (show Z = [q0, q1, q2, q3, q4, q5, q6, q7] by rw [HZ1.out, HQ.out])
        have YL := hid (show ys.length = k by rw [HY.out, makeN_len])
        go_wp2
        go_region
        clear c0 c1 c2 c3 c4 c5 c6 c7 r0 r1 r2 r3 r4 r5 r6 r7 f0 f1 f2 f3 f4 f5 f6 f7
        simp only [Exit.then]
        go_wp2
        refine bodyPost_ret (v := _) (hR _ _ _ 42 [q0, q1, q2, q3, q4, q5, q6, q7] _ 8 rfl IR.out Try.underlying42 rfl size8 rfl) rfl ?_
        exact ⟨A, c, by rw [FY.out, FZ.out, YL.out, HG.out]; rfl, by rw [FY.out]; exact OR.out, BR.out⟩
  · have hb : goodF a p l = false := by simpa using hg
    rw [hb]
    have hRow := hid (S1.out.R)
    go_wp2_with (refine wpList_storeI rfl 42 (.tmp 7) (.tmp 18) rfl _ 42 Z8 Z8 8 rfl rfl S1.out.R size8 rfl rfl ?_)
    refine bodyPost_ret (v := _) (hR _ _ _ 42 Z8 _ 8 rfl (IB.setRow S1.out.R Z8) Try.underlying42 rfl size8 rfl) rfl ?_
    have y1 := HYY.out
    have z1 := HZZ.out
    rw [if_neg hg] at y1 z1
    subst y1
    subst z1
    exact ⟨none, 0, by rw [hb]; rfl, Own.nil, below_setRow S1.out.bel (by omega) _⟩
end Go.Proofs.Ytcfmipobgljbeaa

/- Blocks of numbers as the drawing regions speak of them: ranges. -/
namespace Go.Proofs.Ytcfmipobgljbeaa
set_option linter.unusedVariables false
set_option linter.unusedSimpArgs false
set_option maxRecDepth 100000
open Go.RowKit

section
variable {w w' : World} {g : Nat} {t : TypeId} {xs : List Int} {cs : Array Value}
theorem Blk.rangeAt (h : Blk w g t cs) : w.rangeAt g 0 cs.toList := fun j v hv => by
  rw [Nat.zero_add, Blk.cell h j, ← hv]
  simp
theorem IB.rangeAt (h : IB w g t xs) : w.rangeAt g 0 (ints xs) := by
  have := Blk.rangeAt h
  simpa [agi] using this
theorem Blk.there (h : Blk w g t cs) : w.there g 0 cs.size := fun j hj => by
  rw [Nat.zero_add]
  refine ⟨?_, Blk.frozen h j⟩
  rw [Blk.cell h j]
  simp [hj]
end
theorem rangeAt_alloc_drew {w : World} {b : Nat} {cs : List Value} (h : w.rangeAt b 0 cs) (o : Obj) : (w.alloc o).drew.rangeAt b 0 cs := (World.rangeAt_drew _ _ _ _).2 (World.rangeAt_alloc h o)
theorem rangeAt_far {w : World} {b : Nat} {cs : List Value} (h : w.rangeAt b 0 cs) {p : Addr} (hp : b ≠ p.block) (v : Value) : (w.setCell p v).rangeAt b 0 cs := fun j u hu => by
  rw [World.cell?_setCell_far _ _ _ _ (fun e => hp e.symm)]
  exact h j u hu
theorem rangeAt_far8 {w : World} {b g : Nat} {cs : List Value} (h : w.rangeAt b 0 cs) (hp : b ≠ g) (v0 v1 v2 v3 v4 v5 v6 v7 : Value) : World.rangeAt ((((((((w.setCell ⟨g, 0, none⟩ v0).setCell ⟨g, 1, none⟩ v1).setCell ⟨g, 2, none⟩ v2).setCell ⟨g, 3, none⟩ v3).setCell ⟨g, 4, none⟩ v4).setCell ⟨g, 5, none⟩ v5).setCell ⟨g, 6, none⟩ v6).setCell ⟨g, 7, none⟩ v7) b 0 cs :=
  rangeAt_far (rangeAt_far (rangeAt_far (rangeAt_far (rangeAt_far (rangeAt_far (rangeAt_far (rangeAt_far h hp v0) hp v1) hp v2) hp v3) hp v4) hp v5) hp v6) hp v7
theorem Blk.far8 {w : World} {k g : Nat} {t : TypeId} {cs : Array Value} (h : Blk w k t cs) (hp : k ≠ g) (v0 v1 v2 v3 v4 v5 v6 v7 : Value) : Blk ((((((((w.setCell ⟨g, 0, none⟩ v0).setCell ⟨g, 1, none⟩ v1).setCell ⟨g, 2, none⟩ v2).setCell ⟨g, 3, none⟩ v3).setCell ⟨g, 4, none⟩ v4).setCell ⟨g, 5, none⟩ v5).setCell ⟨g, 6, none⟩ v6).setCell ⟨g, 7, none⟩ v7) k t cs :=
  (((((((h.far (p := ⟨g, 0, none⟩) hp v0).far (p := ⟨g, 1, none⟩) hp v1).far (p := ⟨g, 2, none⟩) hp v2).far (p := ⟨g, 3, none⟩) hp v3).far (p := ⟨g, 4, none⟩) hp v4).far (p := ⟨g, 5, none⟩) hp v5).far (p := ⟨g, 6, none⟩) hp v6).far (p := ⟨g, 7, none⟩) hp v7
end Go.Proofs.Ytcfmipobgljbeaa

/- The walk of the law PitchPicks. -/
namespace Go.Proofs.Ytcfmipobgljbeaa
set_option linter.unusedVariables false
set_option linter.unusedSimpArgs false
set_option maxRecDepth 100000
open Go.RowKit

theorem folder_any (A : Option Addr) (n c : Nat) (w : World) : Calls Try.prog 16 #[.slice A n c] w (fun e w' => e = .returned (.func (.func 45) #[] #[.pointer (some ⟨w.heap.size, 0, none⟩)]) ∧ w' = w.alloc (.cells #[.slice A n c] 22)) := by
  have hmf : ∀ (fn : Fn) (first cap : Array Value) (w : World), (Instr.makeFunc fn first cap).run Try.prog w = .ok (.func fn first cap) w := fun _ _ _ _ => rfl
  go_enter Try.func16, Try.ntmps16
  go_wp2
  go_ret
  exact ⟨rfl, rfl⟩
set_option maxHeartbeats 1000000 in
theorem folderFn (A : Option Addr) (c n g : Nat) (ring : List Int) (w : World) (hb : Blk w g 22 #[.slice A n c]) (hr : Rs w w.heap.size A ring) (hn : ring.length = n) (hl : n ≤ 17592186044416) :
    FoldFn 45 (.pointer (some ⟨g, 0, none⟩)) w ring := by
  intro W hB A' c' v hv h40 h64
  have cb : W.cell? ⟨g, 0, none⟩ = some (.slice A n c) := Blk.cell (Blk.below' hb hB) 0
  have KF := hid (refFold_any A A' c c' n 40 ring v W ((hr.below hB).more hB.size) hv hn h40 hl (by omega))
  clear hb hr hv hB
  go_enter Try.func45, Try.ntmps45
  go_wp2_with fail
  refine KF.out.mono ?_
  rintro e w1 ⟨A2, c2, rfl, hO, hB⟩
  have O1 := hid hO
  have B1 := hid hB
  clear hO hB
  go_wp2
  go_ret
  exact ⟨A2, c2, rfl, O1.out, B1.out⟩

/-- Without a fold there is nothing to pick. -/
def NilAns (w : World) (e : Ending) (w' : World) : Prop := e = .returned (.tuple #[.int .i64 0, .int .i64 0, .int .i64 0, .int .i64 1]) ∧ Below w.heap.size w w'
theorem nil_nil (w : World) : (binOp .eql 27 .nilFunc .nilFunc).run Try.prog w = .ok (.bool true) w := by kernel_rfl
theorem pickNil_any (h : List Int) (A : Option Addr) (c n : Nat) (w : World) : Calls Try.prog 15 #[.agg (agi h), .nilFunc, .slice A n c] w (NilAns w) := by
  have BA := hid ((Below.refl w.heap.size w).alloc (Nat.le_refl _) (.cells (agi h) 34))
  have hnn := nil_nil
  by_cases h40 : n = 40
  · subst h40
    go_enter Try.func15, Try.ntmps15
    go_wp2
    ((try simp only [Exit.inBlock, Exit.then]); refine bodyPost_ret (results_tmp4 rfl _ _ _) rfl ?_)
    exact ⟨rfl, BA.out⟩
  · have d0 : ((n : Int) != 40) = true := by simp; omega
    have d1 : ¬ (n : Int) = 40 := by omega
    clear h40
    go_enter Try.func15, Try.ntmps15
    go_wp2
    ((try simp only [Exit.inBlock, Exit.then]); refine bodyPost_ret (results_tmp4 rfl _ _ _) rfl ?_)
    exact ⟨rfl, BA.out⟩
/-- Behind a call: the box, the lists. -/
structure PL (w V : World) (h r t : List Int) (A A' : Option Addr) : Prop where
  J : IB V w.heap.size 34 h
  R : Rs V V.heap.size A r
  T : Rs V V.heap.size A' t
  B : Below w.heap.size w V
theorem PL.below {w V V' : World} {h r t : List Int} {A A' : Option Addr} (s : PL w V h r t A A') (hb : Below V.heap.size V V') : PL w V' h r t A A' :=
  ⟨Blk.below' s.J hb, (s.R.below hb).more hb.size, (s.T.below hb).more hb.size, s.B.trans (hb.mono s.B.size)⟩
theorem PL.lt {w V : World} {h r t : List Int} {A A' : Option Addr} (s : PL w V h r t A A') : w.heap.size + 1 ≤ V.heap.size := Blk.lt s.J
theorem PL.rg {w V : World} {h r t : List Int} {A A' : Option Addr} (s : PL w V h r t A A') : V.rangeAt w.heap.size 0 (ints h) := IB.rangeAt s.J
theorem PL.drew {w V : World} {h r t : List Int} {A A' : Option Addr} (s : PL w V h r t A A') : PL w V.drew h r t A A' := s.below ((Below.refl _ _).drew)

set_option maxHeartbeats 4000000 in
theorem walkPitchPicks (w : World) (h : List Int) (hh : h.length = 80) (_ : W64 h) (A : Option Addr) (c : Nat) (xs : List Int) (hr : Rs w w.heap.size A xs) (hw : W64 xs) (hl : xs.length ≤ c) (hc : c * 8 ≤ 140737488351232) (A' : Option Addr) (c' : Nat) (ys : List Int) (hr' : Rs w w.heap.size A' ys) (hw' : W64 ys) (hl' : ys.length ≤ c') (hc' : c' * 8 ≤ 140737488351232) :
    Calls Try.prog 5 #[.agg (agi h), .slice A xs.length c, .slice A' ys.length c'] w fun e w' => e = .returned (.bool true) ∧ Below w.heap.size w w' := by
  obtain ⟨n, hn⟩ : ∃ n, n = xs.length := ⟨_, rfl⟩
  obtain ⟨m, hm⟩ : ∃ m, m = ys.length := ⟨_, rfl⟩
  have hB0 := (Below.refl w.heap.size w).alloc (Nat.le_refl _) (.cells (agi h) 34)
  have S0 := hid (show PL w (w.alloc (.cells (agi h) 34)) h xs ys A A' from ⟨IB.new w _ h, (hr.below hB0).more hB0.size, (hr'.below hB0).more hB0.size, hB0⟩)
  have KI := hid (fun W (h : Rs W W.heap.size A' ys) => show Calls Try.prog 10 #[.slice A' m c'] W (fun e w' => ∃ A1 c1, e = .returned (.slice A1 m c1) ∧ Own w' W.heap.size A1 c1 ys ∧ Below W.heap.size W w') from by
    have := ints_any A' c' ys W h (by omega)
    rw [hm]
    exact this)
  have KO := hid (fun W => folder_any A n c W)
  have KF := hid (fun W g (hb : Blk W g 22 #[.slice A n c]) (hr : Rs W W.heap.size A xs) => folderFn A c n g xs W hb hr hn.symm (by omega))
  have K1 := fun W g A1 c1 (hf : FoldFn 45 (.pointer (some ⟨g, 0, none⟩)) W xs) (h1 : Rs W W.heap.size A1 ys) => show Calls Try.prog 15 #[.agg (ints h).toArray, .func (.func 45) #[] #[.pointer (some ⟨g, 0, none⟩)], .slice A1 m c1] W (PkAns xs h ys W) from pitchPick_any h xs ys (.pointer (some ⟨g, 0, none⟩)) A1 c1 m W hh h1 hm.symm (by omega) hf
  have K2 := fun W g A1 c1 (hf : FoldFn 45 (.pointer (some ⟨g, 0, none⟩)) W xs) (h1 : Rs W W.heap.size A1 ys) => show Calls Try.prog 17 #[.agg (ints h).toArray, .func (.func 45) #[] #[.pointer (some ⟨g, 0, none⟩)], .slice A1 m c1] W (PkAns xs h ys W) from refPick_any h xs ys (.pointer (some ⟨g, 0, none⟩)) A1 c1 m W hh h1 hm.symm (by omega) hf
  have K3 := hid (fun W A1 c1 => show Calls Try.prog 15 #[.agg (ints h).toArray, .nilFunc, .slice A1 m c1] W (NilAns W) from pickNil_any h A1 c1 m W)
  unfold PkAns at K1 K2
  have hu80 := Try.underlying34
  have hi80 : (Try.prog.info? 34).map (·.size) = some (ints h).length := by rw [ints_len, hh]; exact size80q
  rw [← hn, ← hm]
  generalize pkA xs h ys = a at *
  generalize pkB xs h ys = b at *
  generalize pkD xs h ys = d at *
  generalize pkErr xs h ys = er at *
  have K1 := hid K1
  have K2 := hid K2
  rename_i K1r K2r
  clear K1r K2r hB0 hr hr' hw hw' hl hl' hc hc' hn hm hh
  obtain ⟨W, hW⟩ : ∃ W, W = w.alloc (.cells (agi h) 34) := ⟨_, rfl⟩
  rw [← hW] at S0
  have rg0 := S0.out.rg
  go_enter Try.func5, Try.ntmps5
  go_wp2_with (rw [← hW])
  have KO1 := hid (show Calls Try.prog 16 #[.slice A n c] W.drew (fun e w' => e = .returned (.func (.func 45) #[] #[.pointer (some ⟨W.heap.size, 0, none⟩)]) ∧ w' = W.drew.alloc (.cells #[.slice A n c] 22)) from KO.out W.drew)
  clear hW
  go_region_held3 (fun w' => w'.rangeAt w.heap.size 0 (ints h)) (first | assumption | go_keep) (first
    | (go_at_call 16; (with_reducible refine KO1.out.mono ?_); rintro e w2 ⟨rfl, hw2⟩; have L2 : Below W.heap.size W w2 := (by rw [hw2]; exact ((Below.refl W.heap.size W).drew).alloc (Nat.le_refl _) _); have S2 := hid (S0.out.below L2); have F2 := hid (KF.out w2 W.heap.size (by rw [hw2]; exact Blk.new W.drew _ _) S2.out.R); have rg2 : w2.rangeAt w.heap.size 0 (ints h) := S2.out.rg; clear hw2 L2)
    | (go_at_call 10; (with_reducible refine (KI.out w2 S2.out.T).mono ?_); rintro e w3 ⟨A3, c3, rfl, hO, hBx⟩; have S3 := hid (S2.out.below hBx); have F3 := hid (F2.out.below hBx); have O3 := hid hO.reads; have rg3 : w3.rangeAt w.heap.size 0 (ints h) := S3.out.rg; clear hO hBx)
    | (go_at_call 15; (with_reducible refine (K1.out w3 W.heap.size A3 c3 F3.out O3.out).mono ?_); rintro e w4 ⟨rfl, hBx⟩; have S4 := hid (S3.out.below hBx); have rg4 : w4.rangeAt w.heap.size 0 (ints h) := S4.out.rg; clear hBx))
  rename_i hHeldZ
  clear hHeldZ rg0 rg2 rg3 KO1 S0 S2 S3 F2 F3 O3
  simp only [Exit.then]
  have KO2 := hid (show Calls Try.prog 16 #[.slice A n c] w4.drew (fun e w' => e = .returned (.func (.func 45) #[] #[.pointer (some ⟨w4.heap.size, 0, none⟩)]) ∧ w' = w4.drew.alloc (.cells #[.slice A n c] 22)) from KO.out w4.drew)
  go_wp2_with fail
  go_region_held3 (fun w' => w'.rangeAt w.heap.size 0 (ints h)) (first | assumption | go_keep) (first
    | (go_at_call 16; (with_reducible refine KO2.out.mono ?_); rintro e w5 ⟨rfl, hw2⟩; have L2 : Below w4.heap.size w4 w5 := (by rw [hw2]; exact ((Below.refl w4.heap.size w4).drew).alloc (Nat.le_refl _) _); have S5 := hid (S4.out.below L2); have F5 := hid (KF.out w5 w4.heap.size (by rw [hw2]; exact Blk.new w4.drew _ _) S5.out.R); have rg5 : w5.rangeAt w.heap.size 0 (ints h) := S5.out.rg; clear hw2 L2)
    | (go_at_call 17; (with_reducible refine (K2.out w5 w4.heap.size A' c' F5.out S5.out.T).mono ?_); rintro e w6 ⟨rfl, hBx⟩; have S6 := hid (S5.out.below hBx); have rg6 : w6.rangeAt w.heap.size 0 (ints h) := S6.out.rg; clear hBx))
  rename_i hHeldZ
  clear hHeldZ rg4 rg5 KO2 S4 S5 F5
  simp only [Exit.then]
  have T6 := hid S6.out.drew.T
  go_wp2_with fail
  go_region_held3 (fun w' => w'.rangeAt w.heap.size 0 (ints h)) (first | assumption | go_keep) (first
    | (go_at_call 10; (with_reducible refine (KI.out w6.drew T6.out).mono ?_); rintro e w7 ⟨A7, c7, rfl, hO, hBx⟩; have S7 := hid (S6.out.drew.below hBx); have rg7 : w7.rangeAt w.heap.size 0 (ints h) := S7.out.rg; clear hO hBx)
    | (go_at_call 15; (with_reducible refine (K3.out w7 A7 c7).mono ?_); rintro e w8 ⟨rfl, hBx⟩; have S8 := hid (S7.out.below hBx); have rg8 : w8.rangeAt w.heap.size 0 (ints h) := S8.out.rg; clear hBx))
  rename_i hHeldZ
  clear hHeldZ rg6 rg7 rg8 S6 S7 T6
  simp only [Exit.then]
  go_wp2
  go_ret
  exact ⟨by simp, S8.out.B⟩
end Go.Proofs.Ytcfmipobgljbeaa
