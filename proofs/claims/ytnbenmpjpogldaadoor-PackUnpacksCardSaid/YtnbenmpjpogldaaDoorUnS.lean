/- The walk of SetBytes. -/
import Derived.Test.YtnbenmpjpogldaaDoorUnV
import Derived.Test.YtnbenmpjpogldaaDoorDotM
import Derived.Test.YtnbenmpjpogldaaDoorBigRsh
import Derived.Test.YtnbenmpjpogldaaDoorBigSubO
import Derived.Deep.RegionHeld3
namespace Go.Proofs.YtnbenmpjpogldaaDoor
set_option linter.unusedVariables false
set_option linter.unusedSimpArgs false
set_option maxRecDepth 100000
open Go.RowKit

set_option maxHeartbeats 4000000 in
theorem SetBytes_any (w : World) (z : Nat) (A : Option Addr) (c : Nat) (xs : List Int) (hz : IntBlk w z) (hr : Rb w w.heap.size A xs) (hn : xs.length = 14) (hx : Byts xs) :
    Calls Tryd.prog 24 #[.pointer (some ⟨z, 0, none⟩), .slice A 14 c] w (Gives w z ((nb xs 14 : Nat) : Int)) := by
  have HZ := hid hz
  have HR := hid hr
  have HN := hid hn
  have HX := hid hx
  clear hz hr hn hx
  go_enter Tryd.func24, Tryd.ntmps24
  go_wp2
  go_loopw [5, 6] (fun rv iv wr => ∃ (i : Nat) (v : Value), i ≤ 14 ∧ iv = .int .i64 i ∧ v = rv ∧ Hid (Nm wr v (nb xs i)) ∧ Hid (Below w.heap.size w wr)) (fun _ iv _ => 14 - (intOf iv).toNat)
  case atStart => exact ⟨0, _, by omega, rfl, rfl, hid (Nm.nil w), hid (Below.refl _ _)⟩
  case round =>
    obtain ⟨i, v, hi, rfl, rfl, HV, HB⟩ := hrel
    by_cases hlt : i < 14
    · obtain ⟨ad, rfl, had, k0⟩ := (HR.out.below HB.out).at_ (k := i) (by rw [HN.out]; exact hlt)
      have hb := HX.out i
      have SX := hid (show nb xs (i + 1) = nb xs i * 2 ^ 8 + (xs.getD i 0).toNat from rfl)
      have hlt2 := nb_lt HX.out (i + 1)
      have hlt1 := nb_lt HX.out i
      have hX1 : nb xs i * 2 ^ 8 < 340282366920938463463374607431768211456 := by
        have h1 : nb xs (i + 1) < 2 ^ 112 := Nat.lt_of_lt_of_le hlt2 (Nat.pow_le_pow_right (by decide) (by omega))
        rw [SX.out] at h1
        have h2 : (2 : Nat) ^ 112 ≤ 340282366920938463463374607431768211456 := by decide
        omega
      have hX0 : nb xs i < 340282366920938463463374607431768211456 := by omega
      obtain ⟨x, hxe⟩ : ∃ x, x = xs.getD i 0 := ⟨_, rfl⟩
      rw [← hxe] at k0 hb SX
      clear hxe hlt1 hlt2
      generalize nb xs i = X at *
      obtain ⟨Y, hY⟩ : ∃ Y, Y = X * 2 ^ 8 := ⟨_, rfl⟩
      have KL := hid (fun W (h : Nm W v X) => show Calls Tryd.prog 32 #[v, .int .u64 8] W (GivesNm W Y) from by rw [hY]; exact left_any W v X 8 h (sm_of_lt hX0) (by omega))
      rw [← hY] at hX1 SX
      have KW := hid (fun W => words_any W x hb.1 (by omega))
      have hxs : x.toNat < 340282366920938463463374607431768211456 := by omega
      have hwx : IntKind.u64.wrap x = x := by rw [IntKind.wrap_u64]; omega
      have i0 : (0 : Int) ≤ i := by omega
      have i14 : (i : Int) < 14 := by omega
      have hsz := HB.out.size
      have hal : ad.block < wr.heap.size := by omega
      have KA := hid (fun W a b (h1 : Nm W a Y) (h2 : Nm W b x.toNat) => add_nm W a b Y x.toNat h1 h2 (sm_of_lt hX1) (sm_of_lt hxs))
      clear hY hb hX0 hX1 hxs
      go_wp2
      go_region_held3 (fun w' => w'.cell? (ad.add i) = some (.int .u8 x)) (go_keep) (first
        | (go_at_call 32; (with_reducible refine (KL.out wr.drew HV.out.drew).mono ?_); rintro e' wL ⟨⟨vL, rfl, hN⟩, hB⟩; have BL : Below wr.heap.size wr wL := ((Below.refl wr.heap.size wr).drew).trans hB; have kL := (BL.cell (p := ad.add i) (by rw [block_of_add]; exact hal)).trans k0; have NL := hid hN; have BL := hid BL; clear hN hB)
        | (go_at_call 37; (with_reducible refine (KW.out wL).mono ?_); rintro e' wW ⟨⟨vW, rfl, hN⟩, hB⟩; have NW := hid hN; have NL2 := hid (NL.out.below hB (Nat.le_refl _)); have BW := hid (BL.out.trans (hB.mono BL.out.size)); have kW := (BW.out.cell (p := ad.add i) (by rw [block_of_add]; exact hal)).trans k0; clear hN hB)
        | (go_at_call 37; (with_reducible refine (KW.out wr.drew).mono ?_); rintro e' wP ⟨⟨vP, rfl, hN⟩, hB⟩; have BP : Below wr.heap.size wr wP := ((Below.refl wr.heap.size wr).drew).trans hB; have kP := (BP.cell (p := ad.add i) (by rw [block_of_add]; exact hal)).trans k0; have NP := hid hN; have VP := hid (HV.out.drew.below hB (Nat.le_refl _)); have BP := hid BP; clear hN hB)
        | (go_at_call 32; (with_reducible refine (KL.out wP VP.out).mono ?_); rintro e' wQ ⟨⟨vQ, rfl, hN⟩, hB⟩; have NQ := hid hN; have NP2 := hid (NP.out.below hB (Nat.le_refl _)); have BQ := hid (BP.out.trans (hB.mono BP.out.size)); have kQ := (BQ.out.cell (p := ad.add i) (by rw [block_of_add]; exact hal)).trans k0; clear hN hB)
        | (go_at_call 36; (with_reducible refine (KA.out wW vL vW NL2.out NW.out).mono ?_); rintro e' wS ⟨⟨v3, rfl, hN⟩, hB⟩; have NS := hid hN; have BS := hid (BW.out.trans (hB.mono BW.out.size)); have kS := (BS.out.cell (p := ad.add i) (by rw [block_of_add]; exact hal)).trans k0; clear hN hB)
        | (go_at_call 36; (with_reducible refine (KA.out wQ vQ vP NQ.out NP2.out).mono ?_); rintro e' wS ⟨⟨v3, rfl, hN⟩, hB⟩; have NS := hid hN; have BS := hid (BQ.out.trans (hB.mono BQ.out.size)); have kS := (BS.out.cell (p := ad.add i) (by rw [block_of_add]; exact hal)).trans k0; clear hN hB))
      all_goals
          rename_i hHeldZ
          clear hHeldZ
          try simp only [Exit.then]
          go_wp2
          go_roundw
          case rel => exact ⟨i + 1, v3, by omega, by go_num, rfl, hid (by rw [SX.out]; exact NS.out), hid (HB.out.trans (BS.out.mono HB.out.size))⟩
          case measure => simp [intOf] <;> omega
    · obtain rfl : i = 14 := by omega
      have KG := hid (give_any wr z false v (nb xs 14) (HZ.out.below HB.out (Nat.le_refl _)) HV.out)
      go_wp2_with (go_at_call 31; (with_reducible refine KG.out.mono ?_); rintro e w1 ⟨rfl, hI, hG⟩)
      go_ret
      exact ⟨rfl, by have := hI; unfold sgn at this; simpa using this, grownBy_trans (grownBy_of_below HB.out (Nat.le_refl _) (some z)) hG⟩
end Go.Proofs.YtnbenmpjpogldaaDoor
