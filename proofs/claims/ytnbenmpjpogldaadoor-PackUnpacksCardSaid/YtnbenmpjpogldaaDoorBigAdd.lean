/- The walks of add, sub, left, right on lists of words. -/
import Derived.Test.YtnbenmpjpogldaaDoorBigWords
namespace Go.Proofs.YtnbenmpjpogldaaDoor
set_option linter.unusedVariables false
set_option linter.unusedSimpArgs false
set_option maxRecDepth 100000
open Go.RowKit

/-- What a function answers that makes a number of words: new memory at most, and the number. -/
def GivesNm (w : World) (n : Nat) (e : Ending) (w' : World) : Prop := (∃ v, e = .returned v ∧ Nm w' v n) ∧ Below w.heap.size w w'

theorem trim_own (w : World) (base : Nat) (v : Value) (n : Nat) (ws : List Nat) (h : w.ownsRow base 73 1 v n (W32 ws)) (ok : wok ws) :
    Calls Tryd.prog 41 #[v] w fun e w' => (∃ v', e = .returned v' ∧ Nm w v' (wv ws)) ∧ w = w' := by
  obtain ⟨ao, cap, rfl, hr, _⟩ := Rd.owned h ok
  refine (trim_any w ao n cap ws hr).mono ?_
  rintro e w' ⟨⟨k, hk, rfl, h1, h2⟩, rfl⟩
  exact ⟨⟨_, rfl, ao, k, cap, _, rfl, hr.take k hk, h2, h1⟩, rfl⟩

theorem make32 (n : Nat) : (madeCells (Value.int .u32 0).cells (n * 1)).toList = W32 (List.replicate n 0) := by
  rw [Nat.mul_one]
  show (madeCells #[Value.int .u32 0] n).toList = _
  rw [toList_madeCells_one]
  simp [W32]

theorem W32_set (rs : List Nat) (k x : Nat) : (W32 rs).set k (.int .u32 (x : Nat)) = W32 (rs.set k x) := by
  simp [W32, List.map_set]

structure AddInv (w wr : World) (an : Nat) (ua ub : List Nat) (k c : Nat) (rs : List Nat) : Prop where
  len : rs.length = an + 1
  ok : wok rs
  val : wv (rs.take k) + 4294967296 ^ k * c = wv (ua.take k) + wv (ub.take k)
  own : wr.ownsRow w.heap.size 73 1 (.slice (some ⟨w.heap.size, 0, none⟩) (an + 1) (an + 1)) (an + 1) (W32 rs)
  bel : Below w.heap.size w wr

theorem AddInv.step {w wr : World} {an : Nat} {ua ub : List Nat} {k c : Nat} {rs : List Nat} (h : AddInv w wr an ua ub k c rs) (hk : k < an)
    {x c' xa xb : Nat} (hx : x < 4294967296) (hxa : ua.getD k 0 = xa) (hxb : ub.getD k 0 = xb) (hv : x + 4294967296 * c' = c + xa + xb) :
    AddInv w (wr.setCell ⟨w.heap.size, k, none⟩ (.int .u32 (x : Nat))) an ua ub (k + 1) c' (rs.set k x) := by
  have hl := h.len
  refine ⟨by simpa using h.len, wok_set h.ok k hx, ?_, ?_, h.bel.setCell (Nat.le_refl _) _⟩
  · rw [take_set_succ _ _ _ (by omega), wv_snoc, List.length_take, Nat.min_eq_left (by omega), wv_take_succ', wv_take_succ', hxa, hxb, Nat.pow_succ]
    have h1 := h.val
    have h2 : 4294967296 ^ k * (x + 4294967296 * c') = 4294967296 ^ k * (c + xa + xb) := by rw [hv]
    simp only [Nat.mul_add] at h2
    rw [Nat.mul_assoc]
    omega
  · have := (h.own.stored k (.int .u32 (x : Nat))).1
    rwa [W32_set] at this

theorem AddInv.fin {w wr : World} {an : Nat} {ua ub : List Nat} {c : Nat} {rs : List Nat} (h : AddInv w wr an ua ub an c rs) (hc : c < 4294967296) (h1 : ua.length = an) (h2 : ub.length ≤ an) :
    (wr.setCell ⟨w.heap.size, an, none⟩ (.int .u32 (c : Nat))).ownsRow w.heap.size 73 1 (.slice (some ⟨w.heap.size, 0, none⟩) (an + 1) (an + 1)) (an + 1) (W32 (rs.set an c))
    ∧ wok (rs.set an c) ∧ wv (rs.set an c) = wv ua + wv ub ∧ Below w.heap.size w (wr.setCell ⟨w.heap.size, an, none⟩ (.int .u32 (c : Nat))) := by
  refine ⟨?_, wok_set h.ok an hc, ?_, h.bel.setCell (Nat.le_refl _) _⟩
  · have := (h.own.stored an (.int .u32 (c : Nat))).1
    rwa [W32_set] at this
  · have e : rs.set an c = (rs.set an c).take (an + 1) := by rw [List.take_of_length_le]; simp [h.len]
    have hv := h.val
    rw [List.take_of_length_le (l := ua) (by omega), List.take_of_length_le (l := ub) (by omega)] at hv
    rw [e, take_set_succ _ _ _ (by rw [h.len]; omega), wv_snoc, List.length_take, Nat.min_eq_left (by rw [h.len]; omega)]
    exact hv

set_option maxHeartbeats 1000000 in
theorem add_ge (w : World) (ao bo : Option Addr) (an ac bn bc : Nat) (ua ub : List Nat) (ha : Rd w ao an ac ua) (hb : Rd w bo bn bc ub) (hn : an ≤ 64) (hm : bn ≤ 64) (hge : bn ≤ an) :
    Calls Tryd.prog 36 #[.slice ao an ac, .slice bo bn bc] w (GivesNm w (wv ua + wv ub)) := by
  obtain ⟨i0, hi, hz0, hz1, hz2⟩ := info_parts info32
  have HA := hid ha
  have HB := hid hb
  clear ha hb
  go_enter Tryd.func36, Tryd.ntmps36
  go_wp2_with (first | (at_make; refine wpList_make_full _ rfl _ _ 52 rfl w.heap.size 73 i0 (.int .u32 0) 1 Tryd.underlying52 hi hz0 hz1 _ _ _ _ (an + 1) rfl rfl (by simp) (by simp) (by rw [hz2]; omega) (by unfold maxLen; omega) (Nat.le_refl _) ?_; intro w1 hown hgrow))
  rw [make32] at hown
  have inv0 : AddInv w w1 an ua ub 0 0 (List.replicate (an + 1) 0) := ⟨by simp, wok_replicate _, by simp [wv], hown, (Below.refl _ _).grown hgrow (Nat.le_refl _) (fun k h => by cases h)⟩
  clear hown hgrow
  go_loopw [6, 7] (fun cv iv wr => ∃ (k c : Nat) (rs : List Nat), k ≤ an ∧ iv = .int .i64 k ∧ cv = .int .u64 c ∧ c ≤ 1 ∧ AddInv w wr an ua ub k c rs) (fun _ iv _ => an - (intOf iv).toNat)
  case atStart => exact ⟨0, 0, _, by omega, rfl, rfl, by omega, inv0⟩
  case round =>
    clear inv0 w1
    obtain ⟨k, c, rs, hk, rfl, rfl, hc1, inv⟩ := hrel
    have hsz := inv.bel.size
    have hcr : ∃ v, wr.cell? ⟨w.heap.size, k, none⟩ = some v := by
      rw [inv.own.cellAt k (by omega)]
      exact ⟨_, List.getElem?_eq_getElem (by simp [W32, inv.len]; omega)⟩
    have hfr := inv.own.frozenAt k
    obtain ⟨v0, hcr⟩ := hcr
    have INV := hid inv
    clear inv
    by_cases hka : k < an
    · obtain ⟨g, off, rfl⟩ := HA.out.addr (by omega)
      have hca := (HA.out.below INV.out.bel (Nat.le_refl _)).cell k hka
      have hra := wok_getD HA.out.ok k
      generalize hxa : ua.getD k 0 = xa at hca hra
      have HXA := hid hxa
      clear hxa
      by_cases hkb : k < bn
      · obtain ⟨g2, off2, rfl⟩ := HB.out.addr (by omega)
        have hcb := (HB.out.below INV.out.bel (Nat.le_refl _)).cell k hkb
        have hrb := wok_getD HB.out.ok k
        generalize hxb : ub.getD k 0 = xb at hcb hrb
        have HXB := hid hxb
        clear hxb
        go_wp2
        go_roundw
        case rel =>
          have e1 : ((c : Int) + xa + xb) % 4294967296 = (((c + xa + xb) % 4294967296 : Nat) : Int) := by omega
          rw [e1]
          exact ⟨k + 1, (c + xa + xb) / 4294967296, _, by omega, by simp, by simp, by omega, INV.out.step hka (by omega) HXA.out HXB.out (by omega)⟩
        case measure => simp [intOf] <;> omega
      · have hxb : ub.getD k 0 = 0 := by
          rw [List.getD_eq_getElem?_getD, List.getElem?_eq_none (by have := HB.out.len; omega)]; rfl
        have HXB := hid hxb
        clear hxb
        go_wp2
        go_roundw
        case rel =>
          have e1 : ((c : Int) + xa) % 4294967296 = (((c + xa) % 4294967296 : Nat) : Int) := by omega
          rw [e1]
          exact ⟨k + 1, (c + xa) / 4294967296, _, by omega, by simp, by simp, by omega, INV.out.step hka (by omega) HXA.out HXB.out (by omega)⟩
        case measure => simp [intOf] <;> omega
    · obtain rfl : k = an := by omega
      have F := INV.out.fin (by omega) HA.out.len (by have := HB.out.len; omega)
      have e1 : (c : Int) % 4294967296 = (c : Int) := by omega
      go_wp2_with (go_at_call 41; refine (trim_own _ w.heap.size _ (k + 1) (rs.set k c) F.1 F.2.1).mono ?_; rintro e w' ⟨⟨v', rfl, hnm⟩, rfl⟩)
      go_ret
      exact ⟨⟨v', rfl, by rw [← F.2.2.1]; exact hnm⟩, F.2.2.2⟩
set_option maxHeartbeats 1000000 in
theorem add_lt (w : World) (ao bo : Option Addr) (an ac bn bc : Nat) (ua ub : List Nat) (ha : Rd w ao an ac ua) (hb : Rd w bo bn bc ub) (hn : an ≤ 64) (hm : bn ≤ 64) (hge : an < bn) :
    Calls Tryd.prog 36 #[.slice ao an ac, .slice bo bn bc] w (GivesNm w (wv ua + wv ub)) := by
  obtain ⟨i0, hi, hz0, hz1, hz2⟩ := info_parts info32
  rw [Nat.add_comm (wv ua)]
  have HA := hid ha
  have HB := hid hb
  clear ha hb
  go_enter Tryd.func36, Tryd.ntmps36
  go_wp2_with (first | (at_make; refine wpList_make_full _ rfl _ _ 52 rfl w.heap.size 73 i0 (.int .u32 0) 1 Tryd.underlying52 hi hz0 hz1 _ _ _ _ (bn + 1) rfl rfl (by simp) (by simp) (by rw [hz2]; omega) (by unfold maxLen; omega) (Nat.le_refl _) ?_; intro w1 hown hgrow))
  rw [make32] at hown
  have inv0 : AddInv w w1 bn ub ua 0 0 (List.replicate (bn + 1) 0) := ⟨by simp, wok_replicate _, by simp [wv], hown, (Below.refl _ _).grown hgrow (Nat.le_refl _) (fun k h => by cases h)⟩
  clear hown hgrow
  go_loopw [6, 7] (fun cv iv wr => ∃ (k c : Nat) (rs : List Nat), k ≤ bn ∧ iv = .int .i64 k ∧ cv = .int .u64 c ∧ c ≤ 1 ∧ AddInv w wr bn ub ua k c rs) (fun _ iv _ => bn - (intOf iv).toNat)
  case atStart => exact ⟨0, 0, _, by omega, rfl, rfl, by omega, inv0⟩
  case round =>
    clear inv0 w1
    obtain ⟨k, c, rs, hk, rfl, rfl, hc1, inv⟩ := hrel
    have hsz := inv.bel.size
    have hcr : ∃ v, wr.cell? ⟨w.heap.size, k, none⟩ = some v := by
      rw [inv.own.cellAt k (by omega)]
      exact ⟨_, List.getElem?_eq_getElem (by simp [W32, inv.len]; omega)⟩
    have hfr := inv.own.frozenAt k
    obtain ⟨v0, hcr⟩ := hcr
    have INV := hid inv
    clear inv
    by_cases hka : k < bn
    · obtain ⟨g, off, rfl⟩ := HB.out.addr (by omega)
      have hca := (HB.out.below INV.out.bel (Nat.le_refl _)).cell k hka
      have hra := wok_getD HB.out.ok k
      generalize hxa : ub.getD k 0 = xa at hca hra
      have HXA := hid hxa
      clear hxa
      by_cases hkb : k < an
      · obtain ⟨g2, off2, rfl⟩ := HA.out.addr (by omega)
        have hcb := (HA.out.below INV.out.bel (Nat.le_refl _)).cell k hkb
        have hrb := wok_getD HA.out.ok k
        generalize hxb : ua.getD k 0 = xb at hcb hrb
        have HXB := hid hxb
        clear hxb
        go_wp2
        go_roundw
        case rel =>
          have e1 : ((c : Int) + xa + xb) % 4294967296 = (((c + xa + xb) % 4294967296 : Nat) : Int) := by omega
          rw [e1]
          exact ⟨k + 1, (c + xa + xb) / 4294967296, _, by omega, by simp, by simp, by omega, INV.out.step hka (by omega) HXA.out HXB.out (by omega)⟩
        case measure => simp [intOf] <;> omega
      · have hxb : ua.getD k 0 = 0 := by
          rw [List.getD_eq_getElem?_getD, List.getElem?_eq_none (by have := HA.out.len; omega)]; rfl
        have HXB := hid hxb
        clear hxb
        go_wp2
        go_roundw
        case rel =>
          have e1 : ((c : Int) + xa) % 4294967296 = (((c + xa) % 4294967296 : Nat) : Int) := by omega
          rw [e1]
          exact ⟨k + 1, (c + xa) / 4294967296, _, by omega, by simp, by simp, by omega, INV.out.step hka (by omega) HXA.out HXB.out (by omega)⟩
        case measure => simp [intOf] <;> omega
    · obtain rfl : k = bn := by omega
      have F := INV.out.fin (by omega) HB.out.len (by have := HA.out.len; omega)
      have e1 : (c : Int) % 4294967296 = (c : Int) := by omega
      go_wp2_with (go_at_call 41; refine (trim_own _ w.heap.size _ (k + 1) (rs.set k c) F.1 F.2.1).mono ?_; rintro e w' ⟨⟨v', rfl, hnm⟩, rfl⟩)
      go_ret
      exact ⟨⟨v', rfl, by rw [← F.2.2.1]; exact hnm⟩, F.2.2.2⟩

/-- A number of at most sixty words. -/
def Sm (n : Nat) : Prop := n < 4294967296 ^ 60

theorem Nm.len {w : World} {v : Value} {n : Nat} (h : Nm w v n) (hs : Sm n) : ∃ ao len cap ws, v = .slice ao len cap ∧ Rd w ao len cap ws ∧ tight ws ∧ wv ws = n ∧ len ≤ 60 := by
  obtain ⟨ao, len, cap, ws, rfl, hr, ht, hn⟩ := h
  exact ⟨ao, len, cap, ws, rfl, hr, ht, hn, by rw [← hr.len]; exact len_le_of_lt ht (by rw [hn]; exact hs)⟩

theorem add_nm (w : World) (va vb : Value) (a b : Nat) (ha : Nm w va a) (hb : Nm w vb b) (sa : Sm a) (sb : Sm b) :
    Calls Tryd.prog 36 #[va, vb] w (GivesNm w (a + b)) := by
  obtain ⟨ao, an, ac, ua, rfl, hra, hta, rfl, hla⟩ := ha.len sa
  obtain ⟨bo, bn, bc, ub, rfl, hrb, htb, rfl, hlb⟩ := hb.len sb
  by_cases h : bn ≤ an
  · exact add_ge w ao bo an ac bn bc ua ub hra hrb (by omega) (by omega) h
  · exact add_lt w ao bo an ac bn bc ua ub hra hrb (by omega) (by omega) (by omega)

end Go.Proofs.YtnbenmpjpogldaaDoor
