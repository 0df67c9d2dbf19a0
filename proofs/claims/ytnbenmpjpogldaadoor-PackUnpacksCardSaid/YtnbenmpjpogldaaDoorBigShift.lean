/- The walks of left and right on lists of words. -/
import Derived.Test.YtnbenmpjpogldaaDoorBigSmall
namespace Go.Proofs.YtnbenmpjpogldaaDoor
set_option linter.unusedVariables false
set_option linter.unusedSimpArgs false
set_option maxRecDepth 100000
open Go.RowKit

structure LeftInv (w wr : World) (q s m : Nat) (ua : List Nat) (k : Nat) (rs : List Nat) : Prop where
  len : rs.length = m
  ok : wok rs
  val : wv rs = 4294967296 ^ q * (2 ^ s * wv (ua.take k))
  top : ∀ j, k + q < j → rs.getD j 0 = 0
  carry : rs.getD (k + q) 0 < 2 ^ s
  own : wr.ownsRow w.heap.size 73 1 (.slice (some ⟨w.heap.size, 0, none⟩) m m) m (W32 rs)
  bel : Below w.heap.size w wr

theorem getD_set (l : List Nat) (i j x : Nat) (h : i < l.length) : (l.set i x).getD j 0 = if i = j then x else l.getD j 0 := by
  rw [List.getD_eq_getElem?_getD, List.getElem?_set]
  by_cases hij : i = j
  · subst hij; simp [h]
  · rw [if_neg hij, if_neg hij, List.getD_eq_getElem?_getD]

theorem getD_replicate (m j : Nat) : (List.replicate m 0).getD j 0 = 0 := by
  rw [List.getD_eq_getElem?_getD, List.getElem?_replicate]; split <;> rfl

theorem LeftInv.step {w wr : World} {q s m : Nat} {ua : List Nat} {k : Nat} {rs : List Nat} (h : LeftInv w wr q s m ua k rs) (hm : k + q + 1 < m) (hs : s < 32)
    {xa c : Nat} (hx : xa < 4294967296) (hxa : ua.getD k 0 = xa) (hc : rs.getD (k + q) 0 = c) :
    LeftInv w ((wr.setCell ⟨w.heap.size, k + q, none⟩ (.int .u32 ((c + xa * 2 ^ s % 4294967296 : Nat) : Int))).setCell ⟨w.heap.size, k + q + 1, none⟩ (.int .u32 ((xa * 2 ^ s / 4294967296 : Nat) : Int))) q s m ua (k + 1)
      ((rs.set (k + q) (c + xa * 2 ^ s % 4294967296)).set (k + q + 1) (xa * 2 ^ s / 4294967296)) := by
  have hl := h.len
  have hcs := h.carry
  rw [hc] at hcs
  obtain ⟨t, ht⟩ : ∃ t, 32 = s + t := ⟨32 - s, by omega⟩
  have hP : (4294967296 : Nat) = 2 ^ s * 2 ^ t := by rw [← Nat.pow_add, ← ht]
  have hmod : xa * 2 ^ s % 4294967296 = 2 ^ s * (xa % 2 ^ t) := by
    rw [hP, Nat.mul_comm xa, Nat.mul_mod_mul_left]
  have hdiv : xa * 2 ^ s / 4294967296 < 2 ^ s := by
    rw [Nat.div_lt_iff_lt_mul (by decide), Nat.mul_comm]
    exact Nat.mul_lt_mul_of_pos_left hx (Nat.two_pow_pos s)
  have hc1 : c + xa * 2 ^ s % 4294967296 < 4294967296 := by
    rw [hmod]
    have h1 : xa % 2 ^ t < 2 ^ t := Nat.mod_lt _ (Nat.two_pow_pos t)
    have h2 := Nat.mul_le_mul_left (2 ^ s) (show xa % 2 ^ t + 1 ≤ 2 ^ t from h1)
    rw [Nat.mul_add, ← hP] at h2
    omega
  have hd1 : xa * 2 ^ s / 4294967296 < 4294967296 := by
    have : 2 ^ s ≤ 2 ^ 32 := Nat.pow_le_pow_right (by decide) (by omega)
    omega
  refine ⟨by simpa using hl, wok_set (wok_set h.ok _ hc1) _ hd1, ?_, ?_, ?_, ?_, (h.bel.setCell (Nat.le_refl _) _).setCell (Nat.le_refl _) _⟩
  · have e1 := wv_set (l := rs) (k := k + q) (by omega) (c + xa * 2 ^ s % 4294967296)
    have e2 := wv_set (l := rs.set (k + q) (c + xa * 2 ^ s % 4294967296)) (k := k + q + 1) (by simp; omega) (xa * 2 ^ s / 4294967296)
    rw [getD_set _ _ _ _ (by omega), if_neg (by omega), h.top _ (by omega)] at e2
    rw [hc] at e1
    have e3 := h.val
    rw [wv_take_succ', hxa]
    have e4 : 4294967296 ^ (k + q + 1) * (xa * 2 ^ s / 4294967296) + 4294967296 ^ (k + q) * (xa * 2 ^ s % 4294967296) = 4294967296 ^ (k + q) * (xa * 2 ^ s) := by
      rw [Nat.pow_succ, Nat.mul_assoc, ← Nat.mul_add, Nat.div_add_mod]
    have e5 : 4294967296 ^ q * (2 ^ s * (wv (ua.take k) + 4294967296 ^ k * xa)) = 4294967296 ^ q * (2 ^ s * wv (ua.take k)) + 4294967296 ^ (k + q) * (xa * 2 ^ s) := by
      rw [Nat.mul_add, Nat.mul_add, Nat.pow_add, Nat.mul_comm xa]
      congr 1
      rw [Nat.mul_left_comm (2 ^ s), ← Nat.mul_assoc, Nat.mul_comm (4294967296 ^ q)]
    rw [e5, ← e4, ← e3]
    rw [Nat.mul_add] at e1
    omega
  · intro j hj
    rw [getD_set _ _ _ _ (by simp; omega), if_neg (by omega), getD_set _ _ _ _ (by omega), if_neg (by omega)]
    exact h.top j (by omega)
  · rw [getD_set _ _ _ _ (by simp; omega), if_pos (by omega)]
    exact hdiv
  · have h1 := (h.own.stored (k + q) (.int .u32 ((c + xa * 2 ^ s % 4294967296 : Nat) : Int))).1
    rw [W32_set] at h1
    have h2 := (h1.stored (k + q + 1) (.int .u32 ((xa * 2 ^ s / 4294967296 : Nat) : Int))).1
    rwa [W32_set] at h2

theorem left_arith {xa c s : Nat} (hx : xa < 4294967296) (hs : s < 32) (hc : c < 2 ^ s) :
    bits BinOp.or IntKind.u32 (c : Int) (IntKind.u64.wrap ((xa : Int) * 2 ^ s) % 4294967296) = ((c + xa * 2 ^ s % 4294967296 : Nat) : Int) ∧
    bits BinOp.or IntKind.u32 0 (IntKind.u64.wrap ((xa : Int) * 2 ^ s) / 4294967296 % 4294967296) = ((xa * 2 ^ s / 4294967296 : Nat) : Int) := by
  have h1 : xa * 2 ^ s < 18446744073709551616 := by
    have h2 : 2 ^ s ≤ 2 ^ 32 := Nat.pow_le_pow_right (by decide) (by omega)
    have h3 : xa * 2 ^ s ≤ xa * 2 ^ 32 := Nat.mul_le_mul_left _ h2
    omega
  have e0 : IntKind.u64.wrap ((xa : Int) * 2 ^ s) = ((xa * 2 ^ s : Nat) : Int) := by
    rw [show ((xa : Int) * 2 ^ s) = ((xa * 2 ^ s : Nat) : Int) from by simp]
    have : IntKind.u64.wrap ((xa * 2 ^ s : Nat) : Int) = ((xa * 2 ^ s : Nat) : Int) % 18446744073709551616 := by
      simp [IntKind.wrap, IntKind.signed, IntKind.bits]
    rw [this]; omega
  have hc2 : c < 4294967296 := by
    have h2 : 2 ^ s ≤ 2 ^ 32 := Nat.pow_le_pow_right (by decide) (by omega)
    omega
  rw [e0]
  constructor
  · rw [show (((xa * 2 ^ s : Nat) : Int) % 4294967296) = ((xa * 2 ^ s % 4294967296 : Nat) : Int) from by omega, u32_or_nat _ _ hc2 (by omega), Nat.or_comm,
      nat_join s _ _ ?_ hc, Nat.add_comm]
    rw [Nat.mod_mod_of_dvd]
    · exact Nat.mul_mod_left _ _
    · exact ⟨2 ^ (32 - s), by rw [← Nat.pow_add, Nat.add_sub_cancel' (by omega)]⟩
  · rw [show (((xa * 2 ^ s : Nat) : Int) / 4294967296 % 4294967296) = ((xa * 2 ^ s / 4294967296 : Nat) : Int) from by omega]
    rw [show (0 : Int) = ((0 : Nat) : Int) from rfl, u32_or_nat _ _ (by omega) (by omega)]
    simp

set_option maxHeartbeats 1000000 in
theorem left_any (w : World) (va : Value) (a n : Nat) (ha : Nm w va a) (sa : Sm a) (hn : n ≤ 1000) :
    Calls Tryd.prog 32 #[va, .int .u64 (n : Nat)] w (GivesNm w (a * 2 ^ n)) := by
  obtain ⟨i0, hi, hz0, hz1, hz2⟩ := info_parts info32
  obtain ⟨ao, an, ac, ua, rfl, hra, hta, rfl, hla⟩ := ha.len sa
  cases an with
  | zero =>
    obtain rfl : ua = [] := List.length_eq_zero_iff.1 hra.len
    clear hra hta ha sa
    go_enter Tryd.func32, Tryd.ntmps32
    go_wp2
    go_ret
    exact ⟨⟨_, rfl, by simpa [wv] using Nm.nil w⟩, Below.refl _ _⟩
  | succ an =>
  have HA := hid hra
  clear hra hta ha sa
  obtain ⟨g, off, rfl⟩ := HA.out.addr (by omega)
  obtain ⟨q, s, hs, hq, HN⟩ : ∃ q s, s < 32 ∧ q ≤ 40 ∧ Hid (n = 32 * q + s) := ⟨n / 32, n % 32, by omega, by omega, hid (by omega)⟩
  have eq : (n : Int) / 32 = (q : Int) := by have := HN.out; omega
  have es : (n : Int) % 32 = (s : Int) := by have := HN.out; omega
  go_enter Tryd.func32, Tryd.ntmps32
  go_wp2_with (first
    | (at_make; refine wpList_make_full _ rfl _ _ 52 rfl w.heap.size 73 i0 (.int .u32 0) 1 Tryd.underlying52 hi hz0 hz1 _ _ _ _ (an + 1 + q + 1) rfl rfl (by omega) (by omega) (by rw [hz2]; omega) (by unfold maxLen; omega) (Nat.le_refl _) ?_; intro w1 hown hgrow)
    )
  rw [make32] at hown
  have inv0 : LeftInv w w1 q s (an + 1 + q + 1) ua 0 (List.replicate (an + 1 + q + 1) 0) := ⟨by simp, wok_replicate _, by simp [wv, wv_replicate], fun j _ => getD_replicate _ _, by rw [getD_replicate]; exact Nat.two_pow_pos s, hown, (Below.refl _ _).grown hgrow (Nat.le_refl _) (fun k h => by cases h)⟩
  clear hown hgrow
  go_loopw [8, 9] (fun iv _ wr => ∃ (k : Nat) (rs : List Nat), k ≤ an + 1 ∧ iv = .int .i64 k ∧ LeftInv w wr q s (an + 1 + q + 1) ua k rs) (fun iv _ _ => an + 1 - (intOf iv).toNat)
  case atStart => exact ⟨0, _, by omega, rfl, inv0⟩
  case round =>
    clear inv0 w1
    obtain ⟨k, rs, hk, rfl, inv⟩ := hrel
    have hsz := inv.bel.size
    by_cases hka : k < an + 1
    · have hca := (HA.out.below inv.bel (Nat.le_refl _)).cell k hka
      have hra := wok_getD HA.out.ok k
      generalize hxa : ua.getD k 0 = xa at hca hra
      have HXA := hid hxa
      clear hxa
      obtain ⟨c, hc⟩ : ∃ c, rs.getD (k + q) 0 = c := ⟨_, rfl⟩
      have hcr : wr.cell? ⟨w.heap.size, k + q, none⟩ = some (.int .u32 (c : Nat)) := by
        rw [inv.own.cellAt (k + q) (by omega), ← hc, getD_elem _ _ (by rw [inv.len]; omega)]
        simp [W32, inv.len, show k + q < an + 1 + q + 1 from by omega]
      have hcr2 : wr.cell? ⟨w.heap.size, k + q + 1, none⟩ = some (.int .u32 0) := by
        have h0 := inv.top (k + q + 1) (by omega)
        rw [getD_elem _ _ (by rw [inv.len]; omega)] at h0
        rw [inv.own.cellAt (k + q + 1) (by omega)]
        simp [W32, inv.len, show k + q + 1 < an + 1 + q + 1 from by omega, h0]
      have hfr := inv.own.frozenAt (k + q)
      have hfr2 := inv.own.frozenAt (k + q + 1)
      have hcs := inv.carry
      rw [hc] at hcs
      have HC := hid (And.intro hc hcs)
      have INV := hid inv
      clear inv hc hcs
      go_wp2
      go_roundw
      case rel =>
        obtain ⟨e1, e2⟩ := left_arith hra hs HC.out.2
        rw [e1, e2]
        exact ⟨k + 1, _, by omega, by simp, INV.out.step (by omega) hs hra HXA.out HC.out.1⟩
      case measure => simp [intOf] <;> omega
    · obtain rfl : k = an + 1 := by omega
      have INV := hid inv
      clear inv
      go_wp2_with (go_at_call 41; refine (trim_own _ w.heap.size _ (an + 1 + q + 1) rs INV.out.own INV.out.ok).mono ?_; rintro e w' ⟨⟨v', rfl, hnm⟩, rfl⟩)
      go_ret
      refine ⟨⟨v', rfl, ?_⟩, INV.out.bel⟩
      have hv := INV.out.val
      rw [List.take_of_length_le (by rw [HA.out.len]; omega)] at hv
      rw [HN.out, Nat.pow_add, Nat.pow_mul, Nat.mul_comm, Nat.mul_assoc, show (2 : Nat) ^ 32 = 4294967296 from rfl, ← hv]
      exact hnm
structure RightInv (w wr : World) (m M : Nat) (k : Nat) (rs : List Nat) : Prop where
  len : rs.length = m
  ok : wok rs
  val : wv (rs.take k) = M % 4294967296 ^ k
  own : wr.ownsRow w.heap.size 73 1 (.slice (some ⟨w.heap.size, 0, none⟩) m m) m (W32 rs)
  bel : Below w.heap.size w wr

theorem RightInv.step {w wr : World} {m M k : Nat} {rs : List Nat} (h : RightInv w wr m M k rs) (hk : k < m) {x : Nat} (hx : x = M / 4294967296 ^ k % 4294967296) :
    RightInv w (wr.setCell ⟨w.heap.size, k, none⟩ (.int .u32 (x : Nat))) m M (k + 1) (rs.set k x) := by
  have hl := h.len
  have hlt : x < 4294967296 := by rw [hx]; exact Nat.mod_lt _ (by decide)
  refine ⟨by simpa using h.len, wok_set h.ok k hlt, ?_, ?_, h.bel.setCell (Nat.le_refl _) _⟩
  · rw [take_set_succ _ _ _ (by omega), wv_snoc, List.length_take, Nat.min_eq_left (by omega), h.val, hx, Nat.pow_succ, Nat.mod_mul]
  · have := (h.own.stored k (.int .u32 (x : Nat))).1
    rwa [W32_set] at this

theorem wv_drop (l : List Nat) (hok : wok l) (q : Nat) (h : q ≤ l.length) : wv (l.drop q) = wv l / 4294967296 ^ q := by
  have e : wv l = wv (l.take q) + 4294967296 ^ q * wv (l.drop q) := by
    conv => lhs; rw [← List.take_append_drop q l]
    rw [wv_append, List.length_take, Nat.min_eq_left h]
  have hlt := wv_lt (wok_take hok q)
  rw [List.length_take, Nat.min_eq_left h] at hlt
  rw [e, Nat.add_mul_div_left _ _ (pow32_pos q), Nat.div_eq_of_lt hlt, Nat.zero_add]

/-- A word of a number moved to the right. -/
theorem right_digit (l : List Nat) (hok : wok l) (q s k : Nat) (hs : s < 32) (hk : q + k < l.length) :
    wv l / 2 ^ (32 * q + s) / 4294967296 ^ k % 4294967296 = (l.getD (q + k) 0 + 4294967296 * l.getD (q + k + 1) 0) / 2 ^ s % 4294967296 := by
  obtain ⟨t, ht⟩ : ∃ t, 32 = s + t := ⟨32 - s, by omega⟩
  have hP : (4294967296 : Nat) = 2 ^ s * 2 ^ t := by rw [← Nat.pow_add, ← ht]
  rw [Nat.pow_add, Nat.pow_mul, show (2 : Nat) ^ 32 = 4294967296 from rfl, ← Nat.div_div_eq_div_mul, Nat.div_div_eq_div_mul, Nat.mul_comm (2 ^ s), ← Nat.div_div_eq_div_mul, Nat.div_div_eq_div_mul (wv l), ← Nat.pow_add, ← wv_drop l hok _ (by omega)]
  rw [drop_getD l (q + k) hk, wv]
  by_cases h2 : q + k + 1 < l.length
  · rw [drop_getD l (q + k + 1) h2, wv]
    generalize l.getD (q + k) 0 = a
    generalize l.getD (q + k + 1) 0 = b
    generalize wv (l.drop (q + k + 1 + 1)) = R
    have e : a + 4294967296 * (b + 4294967296 * R) = (a + 4294967296 * b) + 2 ^ s * (4294967296 * (2 ^ t * R)) := by
      rw [Nat.mul_add, ← Nat.add_assoc]
      congr 1
      conv => lhs; rw [show 4294967296 * (4294967296 * R) = 4294967296 * (R * 4294967296) from by rw [Nat.mul_comm R]]
      rw [← Nat.mul_assoc (2 ^ s), Nat.mul_comm (2 ^ s) 4294967296, Nat.mul_assoc 4294967296, ← Nat.mul_assoc (2 ^ s), ← hP, Nat.mul_comm R]
    rw [e, Nat.add_mul_div_left _ _ (Nat.two_pow_pos s), Nat.add_mul_mod_self_left]
  · rw [List.drop_of_length_le (by omega)]
    have : l.getD (q + k + 1) 0 = 0 := by rw [List.getD_eq_getElem?_getD, List.getElem?_eq_none (by omega)]; rfl
    rw [this]
    rfl

theorem right_arith {a b s : Nat} (ha : a < 4294967296) (hb : b < 4294967296) (hs : s < 32) :
    bits BinOp.or IntKind.u64 (a : Int) ((b : Int) * 4294967296) / 2 ^ s % 4294967296 = (((a + 4294967296 * b) / 2 ^ s % 4294967296 : Nat) : Int) := by
  have e : bits BinOp.or IntKind.u64 (a : Int) ((b : Int) * 4294967296) = ((a + 4294967296 * b : Nat) : Int) := by
    rw [show ((b : Int) * 4294967296) = ((b * 4294967296 : Nat) : Int) from by omega, u64_or_nat _ _ (by omega) (by omega), Nat.or_comm,
      nat_join 32 _ _ (by omega) (by omega), Nat.add_comm, Nat.mul_comm]
  rw [e]
  simp

set_option maxHeartbeats 1000000 in
theorem right_any (w : World) (va : Value) (a n : Nat) (ha : Nm w va a) (sa : Sm a) (hn : n ≤ 10000) :
    Calls Tryd.prog 38 #[va, .int .u64 (n : Nat)] w (GivesNm w (a / 2 ^ n)) := by
  obtain ⟨i0, hi, hz0, hz1, hz2⟩ := info_parts info32
  obtain ⟨ao, an, ac, ua, rfl, hra, hta, rfl, hla⟩ := ha.len sa
  obtain ⟨q, s, hs, hq, HN⟩ : ∃ q s, s < 32 ∧ q ≤ 400 ∧ Hid (n = 32 * q + s) := ⟨n / 32, n % 32, by omega, by omega, hid (by omega)⟩
  have eq : (n : Int) / 32 = (q : Int) := by have := HN.out; omega
  have es : (n : Int) % 32 = (s : Int) := by have := HN.out; omega
  have HA := hid hra
  clear hra hta ha sa
  by_cases hqa : an ≤ q
  · have h0 : wv ua / 2 ^ n = 0 := by
      rw [HN.out, Nat.pow_add, Nat.pow_mul, show (2 : Nat) ^ 32 = 4294967296 from rfl, ← Nat.div_div_eq_div_mul]
      have h1 := wv_lt HA.out.ok
      rw [HA.out.len] at h1
      have h2 : (4294967296 : Nat) ^ an ≤ 4294967296 ^ q := Nat.pow_le_pow_right (by decide) hqa
      rw [Nat.div_eq_of_lt (a := wv ua) (by omega), Nat.zero_div]
    have H0 := hid h0
    clear h0
    go_enter Tryd.func38, Tryd.ntmps38
    go_wp2
    go_ret
    exact ⟨⟨_, rfl, by rw [H0.out]; exact Nm.nil w⟩, Below.refl _ _⟩
  · obtain ⟨g, off, rfl⟩ := HA.out.addr (by omega)
    obtain ⟨m, hm⟩ : ∃ m, an = q + m + 1 := ⟨an - q - 1, by omega⟩
    obtain rfl := hm
    go_enter Tryd.func38, Tryd.ntmps38
    go_wp2_with (first
      | (at_make; refine wpList_make_full _ rfl _ _ 52 rfl w.heap.size 73 i0 (.int .u32 0) 1 Tryd.underlying52 hi hz0 hz1 _ _ _ _ (m + 1) rfl rfl (by omega) (by omega) (by rw [hz2]; omega) (by unfold maxLen; omega) (Nat.le_refl _) ?_; intro w1 hown hgrow)
      )
    rw [make32] at hown
    have inv0 : RightInv w w1 (m + 1) (wv ua / 2 ^ n) 0 (List.replicate (m + 1) 0) := ⟨by simp, wok_replicate _, by simp [wv, Nat.mod_one], hown, (Below.refl _ _).grown hgrow (Nat.le_refl _) (fun k h => by cases h)⟩
    clear hown hgrow
    go_loopw [8, 9] (fun iv _ wr => ∃ (k : Nat) (rs : List Nat), k ≤ m + 1 ∧ iv = .int .i64 k ∧ RightInv w wr (m + 1) (wv ua / 2 ^ n) k rs) (fun iv _ _ => m + 1 - (intOf iv).toNat)
    case atStart => exact ⟨0, _, by omega, rfl, inv0⟩
    case round =>
      clear inv0 w1
      obtain ⟨k, rs, hk, rfl, inv⟩ := hrel
      have hsz := inv.bel.size
      by_cases hka : k < m + 1
      · have hcr : ∃ v, wr.cell? ⟨w.heap.size, k, none⟩ = some v := by
          rw [inv.own.cellAt k (by omega)]
          exact ⟨_, List.getElem?_eq_getElem (by simp [W32, inv.len]; omega)⟩
        have hfr := inv.own.frozenAt k
        obtain ⟨v0, hcr⟩ := hcr
        have INV := hid inv
        clear inv
        have hca := (HA.out.below INV.out.bel (Nat.le_refl _)).cell (k + q) (by omega)
        have hra := wok_getD HA.out.ok (k + q)
        have HD := hid (right_digit ua HA.out.ok q s k hs (by rw [HA.out.len]; omega))
        rw [Nat.add_comm q k] at HD
        generalize hxa : ua.getD (k + q) 0 = xa at hca hra
        have HXA := hid hxa
        by_cases hlast : k = m
        · have h0 : ua.getD (k + q + 1) 0 = 0 := by rw [List.getD_eq_getElem?_getD, List.getElem?_eq_none (by rw [HA.out.len]; omega)]; rfl
          rw [h0, hxa, ← HN.out, Nat.mul_zero, Nat.add_zero] at HD
          clear hxa h0
          subst hlast
          go_wp2
          go_roundw
          case rel =>
            refine ⟨k + 1, rs.set k (xa / 2 ^ s % 4294967296), by omega, by simp, ?_⟩
            have := INV.out.step (by omega) HD.out.symm
            simpa using this
          case measure => simp [intOf] <;> omega
        · have hcb := (HA.out.below INV.out.bel (Nat.le_refl _)).cell (k + q + 1) (by omega)
          have hrb := wok_getD HA.out.ok (k + q + 1)
          generalize hxb : ua.getD (k + q + 1) 0 = xb at hcb hrb
          rw [hxb, hxa, ← HN.out] at HD
          clear hxa hxb
          go_wp2
          go_roundw
          case rel =>
            refine ⟨k + 1, rs.set k ((xa + 4294967296 * xb) / 2 ^ s % 4294967296), by omega, by simp, ?_⟩
            rw [right_arith hra hrb hs]
            exact INV.out.step (by omega) HD.out.symm
          case measure => simp [intOf] <;> omega
      · obtain rfl : k = m + 1 := by omega
        have INV := hid inv
        clear inv
        go_wp2_with (go_at_call 41; refine (trim_own _ w.heap.size _ (m + 1) rs INV.out.own INV.out.ok).mono ?_; rintro e w' ⟨⟨v', rfl, hnm⟩, rfl⟩)
        go_ret
        refine ⟨⟨v', rfl, ?_⟩, INV.out.bel⟩
        have hv := INV.out.val
        have hl := INV.out.len
        rw [List.take_of_length_le (by omega)] at hv
        rw [hv, Nat.mod_eq_of_lt] at hnm
        · exact hnm
        · have h1 := wv_lt HA.out.ok
          rw [HA.out.len] at h1
          rw [HN.out, Nat.pow_add, Nat.pow_mul, show (2 : Nat) ^ 32 = 4294967296 from rfl, ← Nat.div_div_eq_div_mul]
          refine Nat.lt_of_le_of_lt (Nat.div_le_self _ _) ?_
          rw [Nat.div_lt_iff_lt_mul (pow32_pos q), ← Nat.pow_add]
          rw [show m + 1 + q = q + m + 1 from by omega]
          exact h1
end Go.Proofs.YtnbenmpjpogldaaDoor
