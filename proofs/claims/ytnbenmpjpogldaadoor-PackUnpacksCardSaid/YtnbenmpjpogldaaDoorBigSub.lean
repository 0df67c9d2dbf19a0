/- The walk of sub on lists of words. -/
import Derived.Test.YtnbenmpjpogldaaDoorBigAdd
namespace Go.Proofs.YtnbenmpjpogldaaDoor
set_option linter.unusedVariables false
set_option linter.unusedSimpArgs false
set_option maxRecDepth 100000
open Go.RowKit

theorem u64_wrap (z : Int) : IntKind.u64.wrap z = z % 18446744073709551616 := by
  simp [IntKind.wrap, IntKind.signed, IntKind.bits]

theorem sub_arith (xa xb c : Nat) (hc : c ≤ 1) (ha : xa < 4294967296) (hb : xb < 4294967296) :
    ∃ x c' : Nat, IntKind.u64.wrap (IntKind.u64.wrap ((xa : Int) - c) - xb) % 4294967296 = (x : Int) ∧ IntKind.u64.wrap (IntKind.u64.wrap ((xa : Int) - c) - xb) / 9223372036854775808 = (c' : Int) ∧
      c' ≤ 1 ∧ x < 4294967296 ∧ x + xb + c = xa + 4294967296 * c' := by
  have e : IntKind.u64.wrap (IntKind.u64.wrap ((xa : Int) - c) - xb) = ((xa : Int) - c - xb) % 18446744073709551616 := by
    rw [u64_wrap, u64_wrap, Int.emod_sub_emod]
  rw [e]
  by_cases h : xb + c ≤ xa
  · exact ⟨xa - c - xb, 0, by omega, by omega, by omega, by omega, by omega⟩
  · exact ⟨xa + 4294967296 - c - xb, 1, by omega, by omega, by omega, by omega, by omega⟩

theorem sub_arith0 (xa c : Nat) (hc : c ≤ 1) (ha : xa < 4294967296) :
    ∃ x c' : Nat, IntKind.u64.wrap ((xa : Int) - c) % 4294967296 = (x : Int) ∧ IntKind.u64.wrap ((xa : Int) - c) / 9223372036854775808 = (c' : Int) ∧
      c' ≤ 1 ∧ x < 4294967296 ∧ x + 0 + c = xa + 4294967296 * c' := by
  rw [u64_wrap]
  by_cases h : c ≤ xa
  · exact ⟨xa - c, 0, by omega, by omega, by omega, by omega, by omega⟩
  · exact ⟨xa + 4294967296 - c, 1, by omega, by omega, by omega, by omega, by omega⟩

structure SubInv (w wr : World) (an : Nat) (ua ub : List Nat) (k c : Nat) (rs : List Nat) : Prop where
  len : rs.length = an
  ok : wok rs
  val : wv (rs.take k) + wv (ub.take k) = wv (ua.take k) + 4294967296 ^ k * c
  own : wr.ownsRow w.heap.size 73 1 (.slice (some ⟨w.heap.size, 0, none⟩) an an) an (W32 rs)
  bel : Below w.heap.size w wr

theorem SubInv.step {w wr : World} {an : Nat} {ua ub : List Nat} {k c : Nat} {rs : List Nat} (h : SubInv w wr an ua ub k c rs) (hk : k < an)
    {x c' xa xb : Nat} (hx : x < 4294967296) (hxa : ua.getD k 0 = xa) (hxb : ub.getD k 0 = xb) (hv : x + xb + c = xa + 4294967296 * c') :
    SubInv w (wr.setCell ⟨w.heap.size, k, none⟩ (.int .u32 (x : Nat))) an ua ub (k + 1) c' (rs.set k x) := by
  have hl := h.len
  refine ⟨by simpa using h.len, wok_set h.ok k hx, ?_, ?_, h.bel.setCell (Nat.le_refl _) _⟩
  · rw [take_set_succ _ _ _ (by omega), wv_snoc, List.length_take, Nat.min_eq_left (by omega), wv_take_succ', wv_take_succ', hxa, hxb, Nat.pow_succ]
    have h1 := h.val
    have h2 : 4294967296 ^ k * (x + xb + c) = 4294967296 ^ k * (xa + 4294967296 * c') := by rw [hv]
    simp only [Nat.mul_add] at h2
    rw [Nat.mul_assoc]
    omega
  · have := (h.own.stored k (.int .u32 (x : Nat))).1
    rwa [W32_set] at this

theorem SubInv.fin {w wr : World} {an : Nat} {ua ub : List Nat} {c : Nat} {rs : List Nat} (h : SubInv w wr an ua ub an c rs) (h1 : ua.length = an) (h2 : ub.length ≤ an) (hle : wv ub ≤ wv ua) :
    wv rs = wv ua - wv ub := by
  have hv := h.val
  have hl := h.len
  rw [List.take_of_length_le (l := ua) (by omega), List.take_of_length_le (l := ub) (by omega), List.take_of_length_le (l := rs) (by omega)] at hv
  have h3 := wv_lt h.ok
  rw [hl] at h3
  have : c = 0 := by
    by_cases hc : c = 0
    · exact hc
    · exfalso
      have := Nat.mul_le_mul_left (4294967296 ^ an) (show 1 ≤ c by omega)
      omega
  subst this
  omega

set_option maxHeartbeats 1000000 in
theorem sub_any (w : World) (ao bo : Option Addr) (an ac bn bc : Nat) (ua ub : List Nat) (ha : Rd w ao an ac ua) (hb : Rd w bo bn bc ub) (hn : an ≤ 64) (hge : bn ≤ an) (hle : wv ub ≤ wv ua) :
    Calls Tryd.prog 39 #[.slice ao an ac, .slice bo bn bc] w (GivesNm w (wv ua - wv ub)) := by
  obtain ⟨i0, hi, hz0, hz1, hz2⟩ := info_parts info32
  have HA := hid ha
  have HB := hid hb
  have HL := hid hle
  clear ha hb hle
  go_enter Tryd.func39, Tryd.ntmps39
  go_wp2_with (first
    | (at_make; refine wpList_make_full _ rfl _ _ 52 rfl w.heap.size 73 i0 (.int .u32 0) 1 Tryd.underlying52 hi hz0 hz1 _ _ _ _ an rfl rfl (by simp) (by simp) (by rw [hz2]; omega) (by unfold maxLen; omega) (Nat.le_refl _) ?_; intro w1 hown hgrow)
    )
  rw [make32] at hown
  have inv0 : SubInv w w1 an ua ub 0 0 (List.replicate an 0) := ⟨by simp, wok_replicate _, by simp [wv], hown, (Below.refl _ _).grown hgrow (Nat.le_refl _) (fun k h => by cases h)⟩
  clear hown hgrow
  go_loopw [6, 7, 8] (fun cv iv _ wr => ∃ (k c : Nat) (rs : List Nat), k ≤ an ∧ iv = .int .i64 k ∧ cv = .int .u64 c ∧ c ≤ 1 ∧ SubInv w wr an ua ub k c rs) (fun _ iv _ _ => an - (intOf iv).toNat)
  case atStart => exact ⟨0, 0, _, by omega, rfl, rfl, by omega, inv0⟩
  case round =>
    clear inv0 w1
    obtain ⟨k, c, rs, hk, rfl, rfl, hc1, inv⟩ := hrel
    have hsz := inv.bel.size
    by_cases hka : k < an
    · have hcr : ∃ v, wr.cell? ⟨w.heap.size, k, none⟩ = some v := by
        rw [inv.own.cellAt k (by omega)]
        exact ⟨_, List.getElem?_eq_getElem (by simp [W32, inv.len]; omega)⟩
      have hfr := inv.own.frozenAt k
      obtain ⟨v0, hcr⟩ := hcr
      have INV := hid inv
      clear inv
      obtain ⟨g, off, rfl⟩ := HA.out.addr (by omega)
      have hca := (HA.out.below INV.out.bel (Nat.le_refl _)).cell k hka
      have hra := wok_getD HA.out.ok k
      generalize hxa : ua.getD k 0 = xa at hca hra
      have HXA := hid hxa
      clear hxa
      by_cases hkb : k < bn
      · obtain ⟨g2, off2, rfl⟩ := HB.out.addr (by omega)
        have hcb := (HB.out.below INV.out.bel (Nat.le_refl _)).cell k hkb
        have hrb := wok_getD HB.out.ok k
        generalize hxb : ub.getD k 0 = xb at hcb hrb
        have HXB := hid hxb
        clear hxb
        go_wp2
        go_roundw
        case rel =>
          obtain ⟨x, c', e1, e2, h1, h2, h3⟩ := sub_arith xa xb c hc1 hra hrb
          rw [e1, e2]
          exact ⟨k + 1, c', _, by omega, by simp, rfl, h1, INV.out.step hka h2 HXA.out HXB.out h3⟩
        case measure => simp [intOf] <;> omega
      · have hxb : ub.getD k 0 = 0 := by
          rw [List.getD_eq_getElem?_getD, List.getElem?_eq_none (by have := HB.out.len; omega)]; rfl
        have HXB := hid hxb
        clear hxb
        go_wp2
        go_roundw
        case rel =>
          obtain ⟨x, c', e1, e2, h1, h2, h3⟩ := sub_arith0 xa c hc1 hra
          rw [e1, e2]
          exact ⟨k + 1, c', _, by omega, by simp, rfl, h1, INV.out.step hka h2 HXA.out HXB.out h3⟩
        case measure => simp [intOf] <;> omega
    · obtain rfl : k = an := by omega
      have INV := hid inv
      clear inv
      go_wp2_with (go_at_call 41; refine (trim_own _ w.heap.size _ k rs INV.out.own INV.out.ok).mono ?_; rintro e w' ⟨⟨v', rfl, hnm⟩, rfl⟩)
      go_ret
      exact ⟨⟨v', rfl, by rw [← INV.out.fin HA.out.len (by have := HB.out.len; omega) HL.out]; exact hnm⟩, INV.out.bel⟩

theorem sub_nm (w : World) (va vb : Value) (a b : Nat) (ha : Nm w va a) (hb : Nm w vb b) (sa : Sm a) (hle : b ≤ a) :
    Calls Tryd.prog 39 #[va, vb] w (GivesNm w (a - b)) := by
  obtain ⟨ao, an, ac, ua, rfl, hra, hta, rfl, hla⟩ := ha.len sa
  have sb : Sm b := by unfold Sm at *; omega
  obtain ⟨bo, bn, bc, ub, rfl, hrb, htb, rfl, hlb⟩ := hb.len sb
  refine sub_any w ao bo an ac bn bc ua ub hra hrb (by omega) ?_ hle
  by_cases h : bn ≤ an
  · exact h
  · have := wv_lt_of_len hra.ok htb (by rw [hra.len, hrb.len]; omega)
    omega
end Go.Proofs.YtnbenmpjpogldaaDoor
