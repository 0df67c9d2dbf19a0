/- Texts that the law rests on, laid together: CoM. -/
import Derived.Test.YthoiikkjjaldnaaDoorZ48ceed
import Derived.Test.YthoiikkjjaldnaaDoorZ8ebc89
import Derived.Test.YthoiikkjjaldnaaDoorZ3296f7
/- Plain facts on the frame that is lost. -/
namespace Go.Proofs.YthoiikkjjaldnaaDoor
set_option linter.unusedVariables false
set_option linter.unusedSimpArgs false
set_option maxRecDepth 100000
open Go.RowKit

def eraA (m : Mm) : List Int := exL (dirL m.r) 32440
def playY (a p x : List Int) : List Int := if goodF a p x then makeN a p x x.length else []
def playP (a p x : List Int) : List Int := if goodF a p x then newL p (makeN a p x x.length) else Z8
def stM (a : List Int) (m : Mm) (s : Int) : Mm := { eraR m s with p := playP a (eraR m s).p (eraY m s) }
def stY (a : List Int) (m : Mm) (s : Int) : List Int := playY a (eraR m s).p (eraY m s)
def coM (m : Mm) : Mm := if goodM m then stM (eraA m) (stM (eraA m) m 0) 1 else zeroM
def coY (m : Mm) : List Int := if goodM m then stY (eraA m) m 0 ++ stY (eraA m) (stM (eraA m) m 0) 1 else []
theorem playP_len {a p x : List Int} (hp : p.length = 8) : (playP a p x).length = 8 := by
  unfold playP
  split
  · exact newL_len _ _ hp
  · rfl
theorem playY_len (a p x : List Int) : (playY a p x).length ≤ x.length := by
  unfold playY
  split
  · rw [makeN_len]; exact Nat.le_refl _
  · simp
theorem stM_ok {m : Mm} (k : m.ok) (a : List Int) (s : Int) : (stM a m s).ok := ⟨(eraR_ok k s).r, playP_len (eraR_ok k s).p, (eraR_ok k s).e⟩
theorem stY_len (a : List Int) (m : Mm) (s : Int) : (stY a m s).length ≤ 40 := Nat.le_trans (playY_len _ _ _) (eraY_len m s)
theorem coM_ok {m : Mm} (k : m.ok) : (coM m).ok := by
  unfold coM
  split
  · exact stM_ok (stM_ok k _ _) _ _
  · exact zeroM_ok
theorem coY_len (m : Mm) : (coY m).length ≤ 80 := by
  unfold coY
  split
  · have h1 := stY_len (eraA m) m 0
    have h2 := stY_len (eraA m) (stM (eraA m) m 0) 1
    rw [List.length_append]
    omega
  · simp
theorem playP_64 (a p x : List Int) : W64 (playP a p x) := by
  unfold playP
  split
  · next h =>
    have h' : okP a = true ∧ a.getD 0 0 = 4096 ∧ all16 p = true ∧ all16 x = true := by simpa [goodF] using h
    exact w64_of16 (newL_all _ _ h'.2.2.1 (makeN_all _ _ _ _))
  · intro y hy
    have : y = 0 := by simpa [Z8] using hy
    omega
theorem keepL_64 {h x : List Int} (hw : W64 h) : W64 (keepL h x) := fun y hy => by
  unfold keepL at hy
  rcases List.mem_append.1 hy with h1 | h1
  · exact hw y (List.mem_of_mem_drop h1)
  · obtain ⟨z, _, rfl⟩ := List.mem_map.1 h1
    have := s16_range z
    omega
theorem w64_parts {m : Mm} : W64 m.nums ↔ W64 m.r ∧ W64 m.p ∧ W64 m.e ∧ W64 [m.ga, m.pi, m.la, m.er, m.se] := by
  unfold Mm.nums W64
  simp only [List.mem_append]
  constructor
  · intro h
    exact ⟨fun x hx => h x (.inl hx), fun x hx => h x (.inr (.inl hx)), fun x hx => h x (.inr (.inr (.inl hx))), fun x hx => h x (.inr (.inr (.inr hx)))⟩
  · rintro ⟨h1, h2, h3, h4⟩ x (hx | hx | hx | hx)
    · exact h1 x hx
    · exact h2 x hx
    · exact h3 x hx
    · exact h4 x hx
theorem w64_zeros (n : Nat) : W64 (List.replicate n 0) := fun x hx => by
  have := (List.mem_replicate.1 hx).2
  omega
theorem eraR_64 {m : Mm} (hw : W64 m.nums) (s : Int) : W64 (eraR m s).nums := by
  unfold eraR
  split
  · obtain ⟨h1, h2, h3, h4⟩ := w64_parts.1 hw
    have hga := h4 m.ga (by simp)
    have hpi := h4 m.pi (by simp)
    have hla := h4 m.la (by simp)
    have her := h4 m.er (by simp)
    have hse := h4 m.se (by simp)
    refine w64_parts.2 ⟨h1, h2, keepL_64 h3, fun x hx => ?_⟩
    have e1 := nzE_range hse.1 hse.2 40
    have e2 : -9223372036854775808 ≤ er1 m s ∧ er1 m s ≤ 9223372036854775807 := by unfold er1; split <;> omega
    have hx' : x = m.ga ∨ x = m.pi ∨ x = m.la ∨ x = er1 m s ∨ x = nzE m.se 40 := by
      have := hx
      simp only [List.mem_cons, List.not_mem_nil, or_false] at this
      exact this
    rcases hx' with rfl | rfl | rfl | rfl | rfl
    · exact hga
    · exact hpi
    · exact hla
    · exact e2
    · exact e1
  · exact w64_parts.2 ⟨w64_zeros 8, w64_zeros 8, w64_zeros 80, fun x hx => by
      have : x = 0 := by simpa [zeroM] using hx
      omega⟩
theorem stM_64 {m : Mm} (hw : W64 m.nums) (a : List Int) (s : Int) : W64 (stM a m s).nums := by
  obtain ⟨h1, _, h3, h4⟩ := w64_parts.1 (eraR_64 hw s)
  exact w64_parts.2 ⟨h1, playP_64 _ _ _, h3, h4⟩
/-! The first memory's answer has eighty samples. -/
theorem keepL_in {h x : List Int} (hh : all16 h = true) : all16 (keepL h x) = true := by
  unfold all16 keepL at *
  rw [List.all_eq_true] at hh ⊢
  intro y hy
  rcases List.mem_append.1 hy with h1 | h1
  · exact hh y (List.mem_of_mem_drop h1)
  · obtain ⟨z, _, rfl⟩ := List.mem_map.1 h1
    have := s16_range z
    exact ok16_yes this.1 this.2
theorem mxL_in' (m : Mm) : all16 (eraX m) = true := mxL_in _ _ _ _ _
theorem coY_fresh : (coY freshM).length = 80 := by
  have g0 : goodM freshM = true := by decide
  obtain ⟨a, ha⟩ : ∃ a, a = eraA freshM := ⟨_, rfl⟩
  have ga : okP a = true ∧ a.getD 0 0 = 4096 := by rw [ha]; decide
  have b0 : eraB freshM 0 = true := by decide
  have r0 : eraR freshM 0 = eraN (eraP freshM 0) := by unfold eraR; rw [if_pos b0]
  have y0 : eraY freshM 0 = eraX (eraP freshM 0) := by unfold eraY; rw [if_pos b0]
  have l0 : (eraX (eraP freshM 0)).length = 40 := eraX_len (m := eraP freshM 0) ⟨by decide, by decide⟩
  have i0 : all16 (eraX (eraP freshM 0)) = true := mxL_in _ _ _ _ _
  have p0 : all16 (eraR freshM 0).p = true := by rw [r0]; decide
  have f0 : goodF a (eraR freshM 0).p (eraY freshM 0) = true := by unfold goodF; rw [y0, i0, p0, ga.1, ga.2]; rfl
  have n0 : (stY a freshM 0).length = 40 := by unfold stY playY; rw [if_pos f0, makeN_len, y0, l0]
  obtain ⟨m1, hm1⟩ : ∃ m1, m1 = stM a freshM 0 := ⟨_, rfl⟩
  have q1 : all16 m1.p = true := by
    rw [hm1]
    show all16 (playP a (eraR freshM 0).p (eraY freshM 0)) = true
    unfold playP
    rw [if_pos f0]
    exact newL_all _ _ p0 (makeN_all _ _ _ _)
  have e1 : all16 m1.e = true := by
    rw [hm1]
    show all16 (eraR freshM 0).e = true
    rw [r0]
    exact keepL_in (by decide)
  have t1 : tailM m1 := by
    rw [hm1]
    show tailM { eraR freshM 0 with p := _ }
    rw [r0]
    have hs : 0 ≤ nzE 21845 40 ∧ nzE 21845 40 < 65536 := by
      have := nzS_range (nzE 21845 39)
      rw [show (40 : Nat) = 39 + 1 from rfl, nzE_succ]
      omega
    exact ⟨⟨(by decide : (20 : Int) ≤ 20), (by decide : (20 : Int) ≤ 79)⟩, hs, ⟨(by decide : (0 : Int) ≤ 0), (by decide : (0 : Int) ≤ 32767)⟩, ⟨(by decide : (0 : Int) ≤ 0), (by decide : (0 : Int) ≤ 18022)⟩, (by decide : (0 : Int) ≤ 1), (by decide : (1 : Int) ≤ 6)⟩
  have r1 : m1.r.all okK = true := by
    rw [hm1]
    show (eraR freshM 0).r.all okK = true
    rw [r0]; decide
  have g1 : goodM m1 = true := goodM_yes r1 q1 e1 t1
  have b1 : eraB m1 1 = true := by unfold eraB; rw [g1]; decide
  have r2 : eraR m1 1 = eraN (eraP m1 1) := by unfold eraR; rw [if_pos b1]
  have y1 : eraY m1 1 = eraX (eraP m1 1) := by unfold eraY; rw [if_pos b1]
  have l1 : (eraX (eraP m1 1)).length = 40 := eraX_len (m := eraP m1 1) t1.1
  have f1 : goodF a (eraR m1 1).p (eraY m1 1) = true := by
    have : all16 (eraR m1 1).p = true := by rw [r2]; exact q1
    unfold goodF
    rw [y1, mxL_in', this, ga.1, ga.2]; rfl
  have n1 : (stY a m1 1).length = 40 := by unfold stY playY; rw [if_pos f1, makeN_len, y1, l1]
  unfold coY
  rw [if_pos g0, ← ha, List.length_append, n0, ← hm1, n1]
end Go.Proofs.YthoiikkjjaldnaaDoor
