/- Texts that the law rests on, laid together: CoM. -/
import Derived.Test.YthoiikkjjaldnaaDoorZ48ceed
import Derived.Test.YthoiikkjjaldnaaDoorZ8ebc89
import Derived.Test.YthoiikkjjaldnaaDoorZ3296f7
/- Plain facts on the frame that is lost. -/
namespace Go.Proofs.YthoiikkjjaldnaaDoor
set_option linter.unusedVariables false
set_option linter.unusedSimpArgs false
set_option maxRecDepth 100000
open Go.RowKit

def eraA (m : Mm) : List Int := exL (dirL m.r) 32440
def playY (a p x : List Int) : List Int := if goodF a p x then makeN a p x x.length else []
def playP (a p x : List Int) : List Int := if goodF a p x then newL p (makeN a p x x.length) else Z8
def stM (a : List Int) (m : Mm) (s : Int) : Mm := { eraR m s with p := playP a (eraR m s).p (eraY m s) }
def stY (a : List Int) (m : Mm) (s : Int) : List Int := playY a (eraR m s).p (eraY m s)
def coM (m : Mm) : Mm := if goodM m then stM (eraA m) (stM (eraA m) m 0) 1 else zeroM
def coY (m : Mm) : List Int := if goodM m then stY (eraA m) m 0 ++ stY (eraA m) (stM (eraA m) m 0) 1 else []
theorem playP_len {a p x : List Int} (hp : p.length = 8) : (playP a p x).length = 8 := by
  unfold playP
  split
  · exact newL_len _ _ hp
  · rfl
theorem playY_len (a p x : List Int) : (playY a p x).length ≤ x.length := by
  unfold playY
  split
  · rw [makeN_len]; exact Nat.le_refl _
  · simp
theorem stM_ok {m : Mm} (k : m.ok) (a : List Int) (s : Int) : (stM a m s).ok := ⟨(eraR_ok k s).r, playP_len (eraR_ok k s).p, (eraR_ok k s).e⟩
theorem stY_len (a : List Int) (m : Mm) (s : Int) : (stY a m s).length ≤ 40 := Nat.le_trans (playY_len _ _ _) (eraY_len m s)
theorem coM_ok {m : Mm} (k : m.ok) : (coM m).ok := by
  unfold coM
  split
  · exact stM_ok (stM_ok k _ _) _ _
  · exact zeroM_ok
/-! The first memory's answer has eighty samples. -/
theorem keepL_in {h x : List Int} (hh : all16 h = true) : all16 (keepL h x) = true := by
  unfold all16 keepL at *
  rw [List.all_eq_true] at hh ⊢
  intro y hy
  rcases List.mem_append.1 hy with h1 | h1
  · exact hh y (List.mem_of_mem_drop h1)
  · obtain ⟨z, _, rfl⟩ := List.mem_map.1 h1
    have := s16_range z
    exact ok16_yes this.1 this.2
end Go.Proofs.YthoiikkjjaldnaaDoor
