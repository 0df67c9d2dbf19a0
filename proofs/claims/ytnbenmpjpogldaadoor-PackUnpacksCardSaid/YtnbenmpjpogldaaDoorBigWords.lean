/- The walks of the functions on lists of words. -/
import Derived.Test.YtnbenmpjpogldaaDoorBigRd
import Derived.Laws.AppendOwnNone
import Derived.Deep.QuietTactic
import Derived.BigQuiet
import Derived.WalkLawsBesides
namespace Go.Proofs.YtnbenmpjpogldaaDoor
set_option linter.unusedVariables false
set_option linter.unusedSimpArgs false
set_option maxRecDepth 100000
open Go.RowKit

theorem info32 : (Tryd.prog.info? 73).map (fun i => (i.zero, i.size, i.bytes)) = some (some (.int .u32 0), 1, 4) := by kernel_rfl

/-- What trim answers. -/
def Trims (ao : Option Addr) (n cap : Nat) (ws : List Nat) (e : Ending) : Prop := ∃ k, k ≤ n ∧ e = .returned (.slice ao k cap) ∧ wv (ws.take k) = wv ws ∧ tight (ws.take k)

/-- trim strikes the noughts at the end. -/
theorem trim_any (w : World) (ao : Option Addr) (n cap : Nat) (ws : List Nat) (h : Rd w ao n cap ws) :
    Calls Tryd.prog 41 #[.slice ao n cap] w fun e w' => Trims ao n cap ws e ∧ w = w' := by
  have hlim := h.lim.1
  have hlim2 := h.lim.2
  have hroom := h.room
  have hlen := hid h.len
  go_enter Tryd.func41, Tryd.ntmps41
  go_wp2
  go_loop [3] (fun v => ∃ k : Nat, k ≤ n ∧ v = .int .i64 k ∧ ∀ i, k ≤ i → i < ws.length → ws.getD i 0 = 0) (fun v => (intOf v).toNat)
  case atStart => exact ⟨n, Nat.le_refl _, rfl, fun i h1 h2 => by have := hlen.out; omega⟩
  case round =>
    obtain ⟨k, hk, rfl, hz⟩ := hrel
    by_cases h0 : 0 < k
    · obtain ⟨j, rfl⟩ : ∃ j, k = j + 1 := ⟨k - 1, by omega⟩
      obtain ⟨g, off, rfl⟩ := h.addr (by omega)
      have hc := h.cell j (by omega)
      obtain ⟨x, hx⟩ : ∃ x, x = ws.getD j 0 := ⟨_, rfl⟩
      rw [← hx] at hc
      have HZ := hid hz
      have HX := hid hx
      have H := hid h
      clear hz hx h h0
      by_cases hx0 : x = 0
      · subst hx0
        go_wp2
        go_round
        case rel =>

          refine ⟨j, by omega, rfl, fun i h1 h2 => ?_⟩
          by_cases hij : i = j
          · subst hij; exact HX.out.symm
          · exact HZ.out i (by omega) h2
        case measure => simp [intOf] <;> omega
      · go_wp2
        go_ret
        refine ⟨⟨j + 1, hk, rfl, wv_take_of_zero _ _ (by have := hlen.out; omega) HZ.out, tight_take _ _ (by have := hlen.out; omega) ?_⟩, rfl⟩
        intro i hi
        obtain rfl : j = i := by omega
        rw [← HX.out]; exact hx0
    · obtain rfl : k = 0 := by omega
      have HZ := hid hz
      have H := hid h
      clear hz h h0
      cases ao with
      | none =>
        have h1 := H.out.at_ rfl
        obtain ⟨rfl, rfl⟩ := h1
        go_wp2
        go_ret
        exact ⟨⟨0, Nat.le_refl _, rfl, wv_take_of_zero _ _ (by omega) HZ.out, tight_take _ _ (by omega) (fun i hi => by omega)⟩, rfl⟩
      | some a =>
        go_wp2
        go_ret
        exact ⟨⟨0, hk, rfl, wv_take_of_zero _ _ (by omega) HZ.out, tight_take _ _ (by omega) (fun i hi => by omega)⟩, rfl⟩

end Go.Proofs.YtnbenmpjpogldaaDoor
