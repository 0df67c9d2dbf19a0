/- The walks of cmp, words, plain, length on lists of words. -/
import Derived.Test.YtnbenmpjpogldaaDoorBigAdd
namespace Go.Proofs.YtnbenmpjpogldaaDoor
set_option linter.unusedVariables false
set_option linter.unusedSimpArgs false
set_option maxRecDepth 100000
open Go.RowKit

def cmpN (a b : Nat) : Int := if a < b then -1 else if b < a then 1 else 0

theorem cmpN_lt {a b : Nat} (h : a < b) : cmpN a b = -1 := by unfold cmpN; rw [if_pos h]
theorem cmpN_gt {a b : Nat} (h : b < a) : cmpN a b = 1 := by unfold cmpN; rw [if_neg (by omega), if_pos h]
theorem cmpN_eq (a : Nat) : cmpN a a = 0 := by unfold cmpN; rw [if_neg (by omega), if_neg (by omega)]

set_option maxHeartbeats 1000000 in
theorem cmp_any (w : World) (ao bo : Option Addr) (an ac bn bc : Nat) (ua ub : List Nat) (ha : Rd w ao an ac ua) (hb : Rd w bo bn bc ub) (hta : tight ua) (htb : tight ub) (hn : an ≤ 64) (hm : bn ≤ 64) :
    Calls Tryd.prog 42 #[.slice ao an ac, .slice bo bn bc] w fun e w' => e = .returned (.int .i64 (cmpN (wv ua) (wv ub))) ∧ ∃ n, w' = w.drewN n := by
  have HA := hid ha
  have HB := hid hb
  have HTA := hid hta
  have HTB := hid htb
  clear ha hb hta htb
  rcases Nat.lt_trichotomy an bn with hlt | heq | hgt
  · have hv : cmpN (wv ua) (wv ub) = -1 := cmpN_lt (wv_lt_of_len HA.out.ok HTB.out (by rw [HA.out.len, HB.out.len]; exact hlt))
    rw [hv]
    have hne : ((an : Int) == (bn : Int)) = false := by rw [beq_eq_false_iff_ne]; omega
    have hne' : ((an : Int) != (bn : Int)) = true := by rw [bne_iff_ne]; omega
    go_enter Tryd.func42, Tryd.ntmps42
    go_wp2
    go_ret
    exact ⟨rfl, 0, rfl⟩
  · obtain rfl := heq
    go_enter Tryd.func42, Tryd.ntmps42
    go_wp2
    go_loopw [5] (fun iv wr => ∃ k : Nat, k ≤ an ∧ iv = .int .i64 ((k : Int) - 1) ∧ (∀ i, k ≤ i → i < ua.length → ua.getD i 0 = ub.getD i 0) ∧ ∃ n, wr = w.drewN n) (fun iv _ => (intOf iv + 1).toNat)
    case atStart => exact ⟨an, by omega, rfl, fun i h1 h2 => by have := HA.out.len; omega, 0, rfl⟩
    case round =>
      obtain ⟨k, hk, rfl, hz, n, rfl⟩ := hrel
      have HZ := hid hz
      clear hz
      by_cases h0 : 0 < k
      · obtain ⟨j, rfl⟩ : ∃ j, k = j + 1 := ⟨k - 1, by omega⟩
        rw [show (((j + 1 : Nat) : Int) - 1) = (j : Int) from by omega]
        obtain ⟨g, off, rfl⟩ := HA.out.addr (by omega)
        obtain ⟨g2, off2, rfl⟩ := HB.out.addr (by omega)
        have hca := HA.out.cell j (by omega)
        have hcb := HB.out.cell j (by omega)
        generalize hxa : ua.getD j 0 = xa at hca
        generalize hxb : ub.getD j 0 = xb at hcb
        have HXA := hid hxa
        have HXB := hid hxb
        clear hxa hxb
        rcases Nat.lt_trichotomy xa xb with hlt | heq | hgt
        · have hv : cmpN (wv ua) (wv ub) = -1 := cmpN_lt (wv_lt_of_top HA.out.ok (k := j) (by rw [HA.out.len]; omega) (by rw [HA.out.len, HB.out.len]) (fun i h1 h2 => HZ.out i (by omega) h2) (by rw [HXA.out, HXB.out]; exact hlt))
          have HV := hid hv
          clear hv
          have hne : ((xa : Int) != (xb : Int)) = true := by rw [bne_iff_ne]; omega
          go_wp2
          go_quiet (fail)
          go_wp2
          go_quiet (fail)
          go_wp2
          go_ret
          refine ⟨by rw [HV.out]; rfl, ?_⟩; (try simp only [World.drewN_drewN]); exact ⟨_, rfl⟩
        · obtain rfl := heq
          go_wp2
          go_quiet (fail)
          go_wp2
          go_roundw
          case rel =>
            refine ⟨j, by omega, rfl, fun i h1 h2 => ?_, _, rfl⟩
            by_cases hij : i = j
            · rw [hij, HXA.out, HXB.out]
            · exact HZ.out i (by omega) h2
          case measure => simp [intOf] <;> omega
        · have hv : cmpN (wv ua) (wv ub) = 1 := cmpN_gt (wv_lt_of_top HB.out.ok (k := j) (by rw [HB.out.len]; omega) (by rw [HA.out.len, HB.out.len]) (fun i h1 h2 => (HZ.out i (by omega) (by rw [HA.out.len]; rw [HB.out.len] at h2; exact h2)).symm) (by rw [HXA.out, HXB.out]; exact hgt))
          have HV := hid hv
          clear hv
          have hne : ((xa : Int) != (xb : Int)) = true := by rw [bne_iff_ne]; omega
          go_wp2
          go_quiet (fail)
          go_wp2
          go_quiet (fail)
          go_wp2
          go_ret
          refine ⟨by rw [HV.out]; rfl, ?_⟩; (try simp only [World.drewN_drewN]); exact ⟨_, rfl⟩
      · obtain rfl : k = 0 := by omega
        have hv : cmpN (wv ua) (wv ub) = 0 := by
          rw [wv_eq_of_all (by rw [HA.out.len, HB.out.len]) (fun i h1 => HZ.out i (by omega) h1), cmpN_eq]
        have HV := hid hv
        clear hv
        go_wp2
        go_ret
        refine ⟨by rw [HV.out]; rfl, ?_⟩; (try simp only [World.drewN_drewN]); exact ⟨_, rfl⟩
  · have hv : cmpN (wv ua) (wv ub) = 1 := cmpN_gt (wv_lt_of_len HB.out.ok HTA.out (by rw [HA.out.len, HB.out.len]; exact hgt))
    rw [hv]
    have hne : ((an : Int) == (bn : Int)) = false := by rw [beq_eq_false_iff_ne]; omega
    have hne' : ((an : Int) != (bn : Int)) = true := by rw [bne_iff_ne]; omega
    go_enter Tryd.func42, Tryd.ntmps42
    go_wp2
    go_ret
    exact ⟨rfl, 0, rfl⟩

theorem cmp_nm (w : World) (va vb : Value) (a b : Nat) (ha : Nm w va a) (hb : Nm w vb b) (sa : Sm a) (sb : Sm b) :
    Calls Tryd.prog 42 #[va, vb] w fun e w' => e = .returned (.int .i64 (cmpN a b)) ∧ ∃ n, w' = w.drewN n := by
  obtain ⟨ao, an, ac, ua, rfl, hra, hta, rfl, hla⟩ := ha.len sa
  obtain ⟨bo, bn, bc, ub, rfl, hrb, htb, rfl, hlb⟩ := hb.len sb
  exact cmp_any w ao bo an ac bn bc ua ub hra hrb hta htb (by omega) (by omega)
end Go.Proofs.YtnbenmpjpogldaaDoor
