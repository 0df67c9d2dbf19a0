/- The walks of small, and of div where it has one word below. -/
import Derived.Test.YtcfmipobgljbeaaBigDiv
import Derived.Test.YtcfmipobgljbeaaBigICmp
namespace Go.Proofs.Ytcfmipobgljbeaa
set_option linter.unusedVariables false
set_option linter.unusedSimpArgs false
set_option maxRecDepth 100000
open Go.RowKit

/-- What small answers. -/
def SmGives (w : World) (q r : Nat) (e : Ending) (w' : World) : Prop := ∃ v, e = .returned (.tuple #[v, .int .u32 (r : Nat)]) ∧ Nm w' v q ∧ Below w.heap.size w w'

structure SmInv (w wr : World) (an : Nat) (ua : List Nat) (d k r : Nat) (rs : List Nat) : Prop where
  len : rs.length = an
  ok : wok rs
  lt : r < d
  val : wv (ua.drop k) = d * wv (rs.drop k) + r
  own : wr.ownsRow w.heap.size 95 1 (.slice (some ⟨w.heap.size, 0, none⟩) an an) an (W32 rs)
  bel : Below w.heap.size w wr

theorem drop_set_succ (l : List Nat) (k x : Nat) (h : k < l.length) : (l.set k x).drop k = x :: l.drop (k + 1) := by
  rw [List.set_eq_take_append_cons_drop, if_pos h, List.drop_append, List.drop_of_length_le (by rw [List.length_take]; omega), List.length_take, Nat.min_eq_left (by omega)]
  simp

theorem SmInv.step {w wr : World} {an : Nat} {ua : List Nat} {d k r : Nat} {rs : List Nat} (h : SmInv w wr an ua d (k + 1) r rs) (hk : k < an) (hl : ua.length = an) (hd : d < 4294967296) (hxa : ua.getD k 0 < 4294967296) :
    SmInv w (wr.setCell ⟨w.heap.size, k, none⟩ (.int .u32 (((r * 4294967296 + ua.getD k 0) / d : Nat) : Int))) an ua d k ((r * 4294967296 + ua.getD k 0) % d) (rs.set k ((r * 4294967296 + ua.getD k 0) / d)) ∧ (r * 4294967296 + ua.getD k 0) / d < 4294967296 := by
  have hrl := h.len
  have hlt := h.lt
  have hq : (r * 4294967296 + ua.getD k 0) / d < 4294967296 := by
    rw [Nat.div_lt_iff_lt_mul (by omega)]
    have := Nat.mul_le_mul_right 4294967296 (show r + 1 ≤ d by omega)
    rw [Nat.mul_comm 4294967296 d]
    omega
  refine ⟨⟨by simpa using h.len, wok_set h.ok k hq, Nat.mod_lt _ (by omega), ?_, ?_, h.bel.setCell (Nat.le_refl _) _⟩, hq⟩
  · rw [drop_set_succ _ _ _ (by omega), drop_getD ua k (by omega), wv, wv, h.val]
    have h1 := Nat.div_add_mod (r * 4294967296 + ua.getD k 0) d
    generalize ua.getD k 0 = x at *
    generalize wv (rs.drop (k + 1)) = W at *
    generalize (r * 4294967296 + x) / d = Q at *
    generalize (r * 4294967296 + x) % d = R at *
    rw [Nat.mul_add, Nat.mul_add]
    have h2 : 4294967296 * (d * W) = d * (4294967296 * W) := by rw [← Nat.mul_assoc, Nat.mul_comm 4294967296 d, Nat.mul_assoc]
    rw [h2]
    omega
  · have := (h.own.stored k (.int .u32 (((r * 4294967296 + ua.getD k 0) / d : Nat) : Int))).1
    rwa [W32_set] at this

theorem small_or {r x : Nat} (hr : r < 4294967296) (hx : x < 4294967296) : bits BinOp.or IntKind.u64 ((r : Int) * 4294967296) (x : Int) = ((r * 4294967296 + x : Nat) : Int) := by
  rw [show ((r : Int) * 4294967296) = ((r * 4294967296 : Nat) : Int) from by omega, u64_or_nat _ _ (by omega) (by omega),
    nat_join 32 _ _ (by omega) (by omega)]

set_option maxRecDepth 100000 in
set_option maxHeartbeats 2000000 in
theorem small_any (w : World) (ao : Option Addr) (an ac : Nat) (ua : List Nat) (d : Nat) (ha : Rd w ao an ac ua) (hn : an ≤ 64) (h0 : 0 < d) (hd : d < 4294967296) :
    Calls Try.prog 128 #[.slice ao an ac, .int .u32 (d : Nat)] w (SmGives w (wv ua / d) (wv ua % d)) := by
  obtain ⟨i0, hi, hz0, hz1, hz2⟩ := info_parts info32
  have HA := hid ha
  have HD := hid (And.intro h0 hd)
  have hdn : ¬ (d : Int) = 0 := by omega
  have hd0 : (0 : Int) < d := by omega
  clear ha h0
  go_enter Try.func128, Try.ntmps128
  go_wp2_with (first
    | (at_make; refine wpList_make_full _ rfl _ _ 55 rfl w.heap.size 95 i0 (.int .u32 0) 1 Try.underlying55 hi hz0 hz1 _ _ _ _ an rfl rfl (by simp) (by simp) (by rw [hz2]; omega) (by unfold maxLen; omega) (Nat.le_refl _) ?_; intro w1 hown hgrow)
    )
  rw [make32] at hown
  have inv0 : SmInv w w1 an ua d an 0 (List.replicate an 0) := ⟨by simp, wok_replicate _, HD.out.1, by rw [List.drop_of_length_le (by rw [HA.out.len]; omega), List.drop_of_length_le (by simp)]; simp [wv], hown, (Below.refl _ _).grown hgrow (Nat.le_refl _) (fun k h => by cases h)⟩
  clear hown hgrow
  go_loopw [7, 8] (fun rv iv wr => ∃ (k r : Nat) (rs : List Nat), k ≤ an ∧ iv = .int .i64 ((k : Int) - 1) ∧ rv = .int .u64 r ∧ r < 4294967296 ∧ SmInv w wr an ua d k r rs) (fun _ iv _ => (intOf iv + 1).toNat)
  case atStart => exact ⟨an, 0, _, by omega, by first | rfl | simp, rfl, by omega, inv0⟩
  case round =>
    clear inv0 w1
    obtain ⟨k, r, rs, hk, rfl, rfl, hr, inv⟩ := hrel
    by_cases hka : 0 < k
    · obtain ⟨j, rfl⟩ : ∃ j, k = j + 1 := ⟨k - 1, by omega⟩
      rw [show (((j + 1 : Nat) : Int) - 1) = (j : Int) from by omega]
      have hcr : ∃ v, wr.cell? ⟨w.heap.size, j, none⟩ = some v := by
        rw [inv.own.cellAt j (by omega)]
        exact ⟨_, List.getElem?_eq_getElem (by simp [W32, inv.len]; omega)⟩
      have hfr := inv.own.frozenAt j
      obtain ⟨v0, hcr⟩ := hcr
      have INV := hid inv
      clear inv
      obtain ⟨g, off, rfl⟩ := HA.out.addr (by omega)
      have hca := (HA.out.below INV.out.bel (Nat.le_refl _)).cell j (by omega)
      have hra := wok_getD HA.out.ok j
      have ST := hid (INV.out.step (by omega) HA.out.len hd hra)
      generalize hxa : ua.getD j 0 = xa at hca hra ST
      clear hxa
      have eor := small_or hr hra
      obtain ⟨X, hX⟩ : ∃ X, X = r * 4294967296 + xa := ⟨_, rfl⟩
      rw [← hX] at ST eor
      have hX1 : X < 18446744073709551616 := by omega
      have eq1 : (X : Int) / d = ((X / d : Nat) : Int) := by simp
      have eq2 : (X : Int) % d = ((X % d : Nat) : Int) := by simp
      have hQ := ST.out.2
      have hR : X % d < 4294967296 := by have := Nat.mod_lt X HD.out.1; omega
      have HX := hid hX
      clear hX hka
      generalize X / d = Q at *
      generalize X % d = R at *
      go_wp2
      go_roundw
      case rel => exact ⟨j, R, _, by omega, by first | rfl | simp, by first | rfl | (rw [eq2]) | (simp [eq2]), hR, ST.out.1⟩
      case measure => simp [intOf] <;> omega
    · obtain rfl : k = 0 := by omega
      have INV := hid inv
      have hval := inv.val
      have hlt := inv.lt
      simp only [List.drop_zero] at hval
      have e1 : wv ua / d = wv rs := by
        rw [hval]
        rw [Nat.mul_add_div (by omega), Nat.div_eq_of_lt hlt, Nat.add_zero]
      have e2 : wv ua % d = r := by
        rw [hval, Nat.mul_add_mod, Nat.mod_eq_of_lt hlt]
      have E := hid (And.intro e1 e2)
      clear inv hval hlt e1 e2
      go_wp2_with (go_at_call 105; refine (trim_own _ w.heap.size _ an rs INV.out.own INV.out.ok).mono ?_; rintro e w' ⟨⟨v', rfl, hnm⟩, rfl⟩)
      go_ret2
      exact ⟨v', by rw [E.out.2]; first | rfl | simp, by rw [E.out.1]; exact hnm, INV.out.bel⟩

theorem Nm.one_word (w : World) (r : Nat) (h : r < 4294967296) : ∀ c, (w.alloc (.cells #[.int .u32 (r : Nat)] 95)).ownsRow c 95 1 (.slice (some ⟨w.heap.size, 0, none⟩) 1 1) 1 (W32 [r]) ∨ ¬ c ≤ w.heap.size := fun c => by
  by_cases hc : c ≤ w.heap.size
  · exact .inl (World.ownsRow_lit (base := c) (e := 95) (size := 1) w #[.int .u32 (r : Nat)] 1 hc (by unfold maxLen; omega) rfl)
  · exact .inr hc

set_option maxRecDepth 100000 in
set_option maxHeartbeats 2000000 in
theorem div_one (w : World) (va vb : Value) (a b : Nat) (ha : Nm w va a) (hb : Nm w vb b) (hb0 : b ≠ 0) (hlim : ¬ a < 18446744073709551616) (hb1 : b < 4294967296) (sa : Sm a) :
    Calls Try.prog 126 #[va, vb] w (DivGives w (a / b) (a % b)) := by
  have sb : Sm b := sm_of_lt (by omega)
  have HA := hid ha
  have HB := hid hb
  obtain ⟨ao, an, ac, ua, hva, hra, hta, hna, hla⟩ := ha.len sa
  obtain ⟨bo, bn, bc, ub, hvb, hrb, htb, hnb, hlb⟩ := hb.len sb
  have han : 2 < an := by
    have h1 := wv_lt hra.ok
    rw [hra.len, hna] at h1
    by_cases hc : 2 < an
    · exact hc
    · have h2 : (4294967296 : Nat) ^ an ≤ 4294967296 ^ 2 := Nat.pow_le_pow_right (by decide) (by omega)
      omega
  have hbn1 : bn ≤ 1 := by rw [← hrb.len]; exact len_le_of_lt htb (n := 1) (by rw [hnb]; simpa using hb1)
  obtain ⟨y, rfl⟩ : ∃ y, ub = [y] := by
    match ub, hrb.len, hnb with
    | [], h, hn => exact absurd hn.symm hb0
    | [y], _, _ => exact ⟨y, rfl⟩
    | y :: z :: l, h, _ => simp at h; omega
  obtain rfl : bn = 1 := by simpa using hrb.len.symm
  obtain rfl : y = b := by simpa [wv] using hnb
  obtain ⟨g, off, rfl⟩ := hrb.addr (by omega)
  have hcb := hrb.cell 0 (by omega)
  simp at hcb
  have K := hid (cmp_nm w va vb a y ha hb sa sb)
  have hc : 0 ≤ cmpN a y := by
    unfold cmpN
    repeat' split
    all_goals omega
  have SM := hid (fun k => small_any (w.drewN k) ao an ac ua y (hra.below (below_drN w k) (Nat.le_refl _)) (by omega) (by omega) hb1)
  have hrr : a % y < 4294967296 := by have := Nat.mod_lt a (show 0 < y by omega); omega
  rw [hna] at SM
  have HR := hid hrr
  have HB0 := hid hb0
  clear ha hb hra hta hna hrb htb hnb sa sb hla hlb hb0 hlim hrr hbn1
  subst hva hvb
  go_enter Try.func126, Try.ntmps126
  go_wp2_with fail
  refine K.out.mono ?_
  rintro e w1 ⟨rfl, k, rfl⟩
  go_wp2_with fail
  refine (SM.out k).mono ?_
  rintro e w1 ⟨v1, rfl, hn1, hB1⟩
  have N1 := hid hn1
  have B1 := hid (show Below w.heap.size w w1 from Below.trans (b := w.drewN k) ⟨rfl, rfl, rfl, Nat.le_refl _, fun _ _ => rfl⟩ hB1)
  have hO := (Nm.one_word w1 (a % y) HR.out w1.heap.size).resolve_right (by simp)
  have OW := hid hO
  clear hn1 hB1 hO
  go_wp2_with fail
  refine (trim_own _ w1.heap.size _ 1 [a % y] OW.out (by intro x hx; simp at hx; subst hx; exact HR.out)).mono ?_
  rintro e w2 ⟨⟨v2, rfl, hn2⟩, rfl⟩
  have N2 := hid hn2
  clear hn2
  go_wp2
  go_ret2
  refine ⟨_, _, rfl, N1.out.below ((Below.refl _ _).alloc (Nat.le_refl _) _) (Nat.le_refl _), ?_, B1.out.trans ((((Below.refl _ w1).alloc (Nat.le_refl _) _)).mono B1.out.size)⟩
  have := N2.out
  simpa [wv] using this

theorem div_any (w : World) (va vb : Value) (a b : Nat) (ha : Nm w va a) (hb : Nm w vb b) (hb0 : b ≠ 0) (hlim : a < 18446744073709551616 ∨ b < 4294967296) (sa : Sm a) (sb : Sm b) :
    Calls Try.prog 126 #[va, vb] w (DivGives w (a / b) (a % b)) := by
  by_cases h : a < 18446744073709551616
  · exact div_short w va vb a b ha hb hb0 h sb
  · exact div_one w va vb a b ha hb hb0 h (by omega) sa
end Go.Proofs.Ytcfmipobgljbeaa
