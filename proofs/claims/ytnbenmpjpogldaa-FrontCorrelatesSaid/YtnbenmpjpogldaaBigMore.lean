/- The walks of Quo, BitLen, IsInt64, where the seat has them. -/
import Derived.Test.YtnbenmpjpogldaaBigQuo
namespace Go.Proofs.Ytnbenmpjpogldaa
set_option linter.unusedVariables false
set_option linter.unusedSimpArgs false
set_option maxRecDepth 100000
open Go.RowKit

theorem BitLen_any (w : World) (c : Nat) (x : Int) (hc : IntAt w c x) (sx : Sm x.natAbs) :
    Calls Try.prog 15 #[.pointer (some ⟨c, 0, none⟩)] w fun e w' => e = .returned (.int .i64 (bitlen x.natAbs : Nat)) ∧ w = w' := by
  obtain ⟨v, h0, h1, hv⟩ := hc.cells
  have K := hid (length_any w v _ hv sx)
  clear hv hc
  go_enter Try.func15, Try.ntmps15
  go_wp2_with (go_at_call 23; refine K.out.mono ?_; rintro e w1 ⟨rfl, rfl⟩)
  go_ret
  exact ⟨rfl, rfl⟩
end Go.Proofs.Ytnbenmpjpogldaa
