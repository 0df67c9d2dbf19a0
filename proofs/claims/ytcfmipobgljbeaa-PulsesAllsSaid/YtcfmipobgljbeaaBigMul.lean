/- The walk of mul on lists of words. -/
import Derived.Test.YtcfmipobgljbeaaBigShift
namespace Go.Proofs.Ytcfmipobgljbeaa
set_option linter.unusedVariables false
set_option linter.unusedSimpArgs false
set_option maxRecDepth 100000
open Go.RowKit

structure MulInv (w wr : World) (m : Nat) (V : Nat) (t : Nat) (rs : List Nat) : Prop where
  len : rs.length = m
  ok : wok rs
  val : wv rs = V
  top : ∀ j, t ≤ j → rs.getD j 0 = 0
  own : wr.ownsRow w.heap.size 95 1 (.slice (some ⟨w.heap.size, 0, none⟩) m m) m (W32 rs)
  bel : Below w.heap.size w wr

theorem MulInv.drewN {w wr : World} {m V t : Nat} {rs : List Nat} (h : MulInv w wr m V t rs) (n : Nat) : MulInv w (wr.drewN n) m V t rs :=
  ⟨h.len, h.ok, h.val, h.top, h.own, h.bel.trans ⟨rfl, rfl, rfl, Nat.le_refl _, fun _ _ => rfl⟩⟩

/-- A store of word p: the value turns by what the word turns. -/
theorem MulInv.step {w wr : World} {m V t : Nat} {rs : List Nat} (h : MulInv w wr m V t rs) {p x r V' : Nat} (hp : p < m) (hx : x < 4294967296) (hr : rs.getD p 0 = r)
    (hV : V' + 4294967296 ^ p * r = V + 4294967296 ^ p * x) (t' : Nat) (ht : t ≤ t') (hpt : p < t') :
    MulInv w (wr.setCell ⟨w.heap.size, p, none⟩ (.int .u32 (x : Nat))) m V' t' (rs.set p x) := by
  have hl := h.len
  refine ⟨by simpa using hl, wok_set h.ok _ hx, ?_, fun j hj => ?_, ?_, h.bel.setCell (Nat.le_refl _) _⟩
  · have e1 := wv_set (l := rs) (k := p) (by omega) x
    rw [hr, h.val] at e1
    omega
  · rw [getD_set _ _ _ _ (by omega), if_neg (by omega)]
    exact h.top j (by omega)
  · have := (h.own.stored p (.int .u32 (x : Nat))).1
    rwa [W32_set] at this

theorem mul_arith {c xa xb r : Nat} (hc : c < 4294967296) (ha : xa < 4294967296) (hb : xb < 4294967296) (hr : r < 4294967296) :
    c + (xa * xb + r) < 18446744073709551616 ∧ (c + (xa * xb + r)) / 4294967296 < 4294967296 := by
  have h1 : xa * xb ≤ 4294967295 * 4294967295 := Nat.mul_le_mul (by omega) (by omega)
  have h2 : c + (xa * xb + r) < 18446744073709551616 := by omega
  exact ⟨h2, by omega⟩

theorem mul_arith' {c xa xb r : Nat} (h : c + (xa * xb + r) < 18446744073709551616) :
    IntKind.u64.wrap ((c : Int) + IntKind.u64.wrap (IntKind.u64.wrap ((xa : Int) * xb) + r)) = ((c + (xa * xb + r) : Nat) : Int) := by
  have e : ∀ z, IntKind.u64.wrap z = z % 18446744073709551616 := by intro z; simp [IntKind.wrap, IntKind.signed, IntKind.bits]
  rw [e, e, e, show ((xa : Int) * xb) = ((xa * xb : Nat) : Int) from by simp]
  generalize xa * xb = p at *
  omega

theorem mul_V {B P V c xa xb r S : Nat} (hV : V + P * c = S) (hr : P * r ≤ V) :
    (V - P * r + P * ((c + (xa * xb + r)) % B)) + (P * B) * ((c + (xa * xb + r)) / B) = S + P * (xa * xb) := by
  rw [Nat.mul_assoc P, Nat.add_assoc, ← Nat.mul_add, Nat.mod_add_div]
  rw [Nat.mul_add, Nat.mul_add]
  omega

theorem getD_wv_le (l : List Nat) (p : Nat) : 4294967296 ^ p * l.getD p 0 ≤ wv l := by
  by_cases h : p < l.length
  · have e : wv l = wv (l.take (p + 1)) + 4294967296 ^ (p + 1) * wv (l.drop (p + 1)) := by
      conv => lhs; rw [← List.take_append_drop (p + 1) l]
      rw [wv_append, List.length_take, Nat.min_eq_left (by omega)]
    rw [e, wv_take_succ']
    omega
  · rw [List.getD_eq_getElem?_getD, List.getElem?_eq_none (by omega)]; simp

set_option maxHeartbeats 2000000 in
theorem mul_any (w : World) (va vb : Value) (a b : Nat) (ha : Nm w va a) (hb : Nm w vb b) (sa : Sm a) (sb : Sm b) :
    Calls Try.prog 110 #[va, vb] w (GivesNm w (a * b)) := by
  obtain ⟨i0, hi, hz0, hz1, hz2⟩ := info_parts info32
  obtain ⟨ao, an, ac, ua, rfl, hra, hta, rfl, hla⟩ := ha.len sa
  obtain ⟨bo, bn, bc, ub, rfl, hrb, htb, rfl, hlb⟩ := hb.len sb
  have HA := hid hra
  have HB := hid hrb
  clear hra hrb hta htb ha hb sa sb
  by_cases ha0 : an = 0
  · subst ha0
    have h0 : wv ua * wv ub = 0 := by
      have : ua = [] := List.length_eq_zero_iff.1 HA.out.len
      rw [this]; simp [wv]
    rw [h0]
    clear h0
    go_enter Try.func110, Try.ntmps110
    go_wp2
    go_ret
    exact ⟨⟨_, rfl, Nm.nil w⟩, Below.refl _ _⟩
  by_cases hb0 : bn = 0
  · subst hb0
    have h0 : wv ua * wv ub = 0 := by
      have : ub = [] := List.length_eq_zero_iff.1 HB.out.len
      rw [this]; simp [wv]
    rw [h0]
    clear h0
    have hne : ((an : Int) == 0) = false := by rw [beq_eq_false_iff_ne]; omega
    go_enter Try.func110, Try.ntmps110
    go_wp2
    go_ret
    exact ⟨⟨_, rfl, Nm.nil w⟩, Below.refl _ _⟩
  obtain ⟨g, off, rfl⟩ := HA.out.addr (by omega)
  obtain ⟨g2, off2, rfl⟩ := HB.out.addr (by omega)
  have hne : ((an : Int) == 0) = false := by rw [beq_eq_false_iff_ne]; omega
  have hne2 : ((bn : Int) == 0) = false := by rw [beq_eq_false_iff_ne]; omega
  clear ha0 hb0
  go_enter Try.func110, Try.ntmps110
  go_wp2_with (first
    | (at_make; refine wpList_make_full _ rfl _ _ 55 rfl w.heap.size 95 i0 (.int .u32 0) 1 Try.underlying55 hi hz0 hz1 _ _ _ _ (an + bn) rfl rfl (by simp) (by simp) (by rw [hz2]; omega) (by unfold maxLen; omega) (Nat.le_refl _) ?_; intro w1 hown hgrow)
    )
  rw [make32] at hown
  have inv0 : MulInv w w1 (an + bn) 0 bn (List.replicate (an + bn) 0) := ⟨by simp, wok_replicate _, wv_replicate _, fun j _ => getD_replicate _ _, hown, (Below.refl _ _).grown hgrow (Nat.le_refl _) (fun k h => by cases h)⟩
  clear hown hgrow hne hne2
  go_loopw [6, 7, 8] (fun iv _ _ wr => ∃ (i : Nat) (rs : List Nat), i ≤ an ∧ iv = .int .i64 i ∧ MulInv w wr (an + bn) (wv (ua.take i) * wv ub) (i + bn) rs) (fun iv _ _ _ => an - (intOf iv).toNat)
  case atStart => exact ⟨0, _, by omega, rfl, by simpa [wv] using inv0⟩
  case round =>
    clear inv0 w1
    obtain ⟨i, rs, hi', rfl, inv⟩ := hrel
    have hsz := inv.bel.size
    by_cases hka : i < an
    · have hra := wok_getD HA.out.ok i
      have hca := (HA.out.below inv.bel (Nat.le_refl _)).cell i hka
      generalize hxa : ua.getD i 0 = xa at hca hra
      have HXA := hid hxa
      clear hxa hca
      have INV := hid inv
      clear inv
      obtain ⟨wo, rfl⟩ : ∃ wo : World, wo = wr := ⟨_, rfl⟩
      go_wp2
      go_loopw [7, 8] (fun cv jv wr => ∃ (j c V : Nat) (rs : List Nat), j ≤ bn ∧ jv = .int .i64 j ∧ cv = .int .u64 c ∧ c < 4294967296 ∧ MulInv w wr (an + bn) V (i + bn) rs ∧ V + 4294967296 ^ (i + j) * c = wv (ua.take i) * wv ub + 4294967296 ^ i * (xa * wv (ub.take j))) (fun _ jv _ => bn - (intOf jv).toNat)
      case atStart => exact ⟨0, 0, _, _, by omega, rfl, rfl, by omega, INV.out, by simp [wv]⟩
      case round =>
        clear INV
        obtain ⟨j, c, V, rs, hj, rfl, rfl, hc, inv, hV⟩ := hrel
        have hsz := inv.bel.size
        have hcr : ∃ r : Nat, r < 4294967296 ∧ wr.cell? ⟨w.heap.size, i + j, none⟩ = some (.int .u32 (r : Nat)) ∧ rs.getD (i + j) 0 = r := by
          refine ⟨rs.getD (i + j) 0, wok_getD inv.ok _, ?_, rfl⟩
          rw [inv.own.cellAt (i + j) (by omega), getD_elem _ _ (by rw [inv.len]; omega)]
          simp [W32, inv.len, show i + j < an + bn from by omega]
        have hfr := inv.own.frozenAt (i + j)
        have INV := hid inv
        have HV := hid hV
        clear inv hV
        by_cases hkb : j < bn
        · have hca := (HA.out.below INV.out.bel (Nat.le_refl _)).cell i hka
          rw [HXA.out] at hca
          have hrb := wok_getD HB.out.ok j
          have hcb := (HB.out.below INV.out.bel (Nat.le_refl _)).cell j hkb
          generalize hxb : ub.getD j 0 = xb at hcb hrb
          have HXB := hid hxb
          clear hxb
          obtain ⟨r, hr, hcr, hr2⟩ := hcr
          have HR := hid hr2
          clear hr2
          go_wp2
          go_quiet (fail)
          go_wp2
          go_roundw
          case rel =>
            have h64 := mul_arith hc hra hrb hr
            rw [mul_arith' h64.1]
            have hle := getD_wv_le rs (i + j)
            rw [HR.out, INV.out.val] at hle
            have hv := mul_V (B := 4294967296) (xa := xa) (xb := xb) HV.out hle
            refine ⟨j + 1, (c + (xa * xb + r)) / 4294967296, V - 4294967296 ^ (i + j) * r + 4294967296 ^ (i + j) * ((c + (xa * xb + r)) % 4294967296), rs.set (i + j) ((c + (xa * xb + r)) % 4294967296), by omega, by simp, by simp, h64.2, ?_, ?_⟩
            · rw [show (((c + (xa * xb + r) : Nat) : Int) % 4294967296) = (((c + (xa * xb + r)) % 4294967296 : Nat) : Int) from by omega]
              exact (INV.out.drewN _).step (by omega) (by omega) HR.out (by omega) _ (Nat.le_refl _) (by omega)
            · rw [← Nat.add_assoc i j 1, Nat.pow_succ, hv, wv_take_succ', HXB.out, Nat.mul_add xa, Nat.mul_add (4294967296 ^ i), Nat.pow_add, ← Nat.add_assoc]
              congr 1
              rw [Nat.mul_assoc, Nat.mul_left_comm xa]
          case measure => simp [intOf] <;> omega
        · obtain rfl : j = bn := by omega
          obtain ⟨r, hr, hcr, hr2⟩ := hcr
          have hr0 : r = 0 := by rw [← hr2]; exact INV.out.top _ (by omega)
          subst hr0
          have HR := hid hr2
          clear hr2
          have e1 : (c : Int) % 4294967296 = (c : Int) := by omega
          go_wp2
          go_roundw
          case rel =>
            refine ⟨i + 1, rs.set (i + j) c, by omega, by simp, ?_⟩
            have hv := HV.out
            rw [List.take_of_length_le (l := ub) (by rw [HB.out.len]; omega)] at hv
            have e2 : wv (ua.take (i + 1)) * wv ub = V + 4294967296 ^ (i + j) * c := by
              rw [hv, wv_take_succ', HXA.out, Nat.add_mul, Nat.mul_assoc]
            rw [e2, show i + 1 + j = i + j + 1 from by omega]
            exact INV.out.step (by omega) hc HR.out (by omega) _ (by omega) (by omega)
          case measure => simp [intOf] <;> omega
    · obtain rfl : i = an := by omega
      have INV := hid inv
      clear inv
      go_wp2_with (go_at_call 105; refine (trim_own _ w.heap.size _ (i + bn) rs INV.out.own INV.out.ok).mono ?_; rintro e w' ⟨⟨v', rfl, hnm⟩, rfl⟩)
      go_ret
      refine ⟨⟨v', rfl, ?_⟩, INV.out.bel⟩
      rw [INV.out.val, List.take_of_length_le (by rw [HA.out.len]; omega)] at hnm
      exact hnm
end Go.Proofs.Ytcfmipobgljbeaa
