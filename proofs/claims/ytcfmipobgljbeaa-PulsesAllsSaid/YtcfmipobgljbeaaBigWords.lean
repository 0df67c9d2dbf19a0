/- The walks of the functions on lists of words. -/
import Derived.Test.YtcfmipobgljbeaaBigRd
import Derived.Laws.AppendOwnNone
import Derived.Deep.QuietTactic
import Derived.BigQuiet
import Derived.WalkLawsBesides
namespace Go.Proofs.Ytcfmipobgljbeaa
set_option linter.unusedVariables false
set_option linter.unusedSimpArgs false
set_option maxRecDepth 100000
open Go.RowKit

theorem info32 : (Try.prog.info? 95).map (fun i => (i.zero, i.size, i.bytes)) = some (some (.int .u32 0), 1, 4) := by kernel_rfl

/-- What trim answers. -/
def Trims (ao : Option Addr) (n cap : Nat) (ws : List Nat) (e : Ending) : Prop := ∃ k, k ≤ n ∧ e = .returned (.slice ao k cap) ∧ wv (ws.take k) = wv ws ∧ tight (ws.take k)

/-- trim strikes the noughts at the end. -/
theorem trim_any (w : World) (ao : Option Addr) (n cap : Nat) (ws : List Nat) (h : Rd w ao n cap ws) :
    Calls Try.prog 105 #[.slice ao n cap] w fun e w' => Trims ao n cap ws e ∧ w = w' := by
  have hlim := h.lim.1
  have hlim2 := h.lim.2
  have hroom := h.room
  have hlen := hid h.len
  go_enter Try.func105, Try.ntmps105
  go_wp2
  go_loop [3] (fun v => ∃ k : Nat, k ≤ n ∧ v = .int .i64 k ∧ ∀ i, k ≤ i → i < ws.length → ws.getD i 0 = 0) (fun v => (intOf v).toNat)
  case atStart => exact ⟨n, Nat.le_refl _, rfl, fun i h1 h2 => by have := hlen.out; omega⟩
  case round =>
    obtain ⟨k, hk, rfl, hz⟩ := hrel
    by_cases h0 : 0 < k
    · obtain ⟨j, rfl⟩ : ∃ j, k = j + 1 := ⟨k - 1, by omega⟩
      obtain ⟨g, off, rfl⟩ := h.addr (by omega)
      have hc := h.cell j (by omega)
      obtain ⟨x, hx⟩ : ∃ x, x = ws.getD j 0 := ⟨_, rfl⟩
      rw [← hx] at hc
      have HZ := hid hz
      have HX := hid hx
      have H := hid h
      clear hz hx h h0
      by_cases hx0 : x = 0
      · subst hx0
        go_wp2
        go_round
        case rel =>

          refine ⟨j, by omega, rfl, fun i h1 h2 => ?_⟩
          by_cases hij : i = j
          · subst hij; exact HX.out.symm
          · exact HZ.out i (by omega) h2
        case measure => simp [intOf] <;> omega
      · go_wp2
        go_ret
        refine ⟨⟨j + 1, hk, rfl, wv_take_of_zero _ _ (by have := hlen.out; omega) HZ.out, tight_take _ _ (by have := hlen.out; omega) ?_⟩, rfl⟩
        intro i hi
        obtain rfl : j = i := by omega
        rw [← HX.out]; exact hx0
    · obtain rfl : k = 0 := by omega
      have HZ := hid hz
      have H := hid h
      clear hz h h0
      cases ao with
      | none =>
        have h1 := H.out.at_ rfl
        obtain ⟨rfl, rfl⟩ := h1
        go_wp2
        go_ret
        exact ⟨⟨0, Nat.le_refl _, rfl, wv_take_of_zero _ _ (by omega) HZ.out, tight_take _ _ (by omega) (fun i hi => by omega)⟩, rfl⟩
      | some a =>
        go_wp2
        go_ret
        exact ⟨⟨0, hk, rfl, wv_take_of_zero _ _ (by omega) HZ.out, tight_take _ _ (by omega) (fun i hi => by omega)⟩, rfl⟩

/-- twin: the same words in new memory (or none). -/
theorem twin_any (w : World) (ao : Option Addr) (n cap : Nat) (ws : List Nat) (h : Rd w ao n cap ws) (hn : n ≤ 64) :
    Calls Try.prog 122 #[.slice ao n cap] w fun e w' => ∃ v, e = .returned v ∧ w'.ownsRow w.heap.size 95 1 v n (W32 ws) ∧ w.grownBy w' none := by
  obtain ⟨i0, hi, hz0, hz1, hz2⟩ := info_parts info32
  cases ao with
  | none =>
    have h1 := h.at_ rfl
    obtain ⟨rfl, rfl⟩ := h1
    obtain rfl : ws = [] := List.length_eq_zero_iff.1 h.len
    have H := hid h
    clear h
    go_enter Try.func122, Try.ntmps122
    go_wp2_with (at_builtin; refine wpList_append_own_none rfl _ _ 55 rfl w.heap.size 95 i0 1 Try.underlying55 hi _ 0 [] rfl (World.ownsRow_nil _ _ _ _) rfl ?_)
    go_ret
    exact ⟨_, rfl, World.ownsRow_nil _ _ _ _, ⟨rfl, rfl, rfl, Nat.le_refl _, fun _ _ _ => rfl⟩⟩
  | some a =>
    have hsp := (h.cells a rfl).1
    obtain ⟨g, off, s⟩ := a
    simp only at hsp
    subst hsp
    have H := hid h
    clear h
    go_enter Try.func122, Try.ntmps122
    go_wp2_with (at_builtin; refine wpList_append_own _ rfl _ _ 55 rfl w.heap.size 95 i0 (.int .u32 0) 1 4 Try.underlying55 hi hz0 hz1 hz2 rfl (by decide) _ 0 [] rfl (World.ownsRow_nil _ _ _ _) ⟨g, off, none⟩ n cap (W32 ws) rfl ?c0 ?c1 ?c2 ?c3 ?c4 ?c5 ?_)
    case c0 => have := H.out.len; simp [W32, this]
    case c1 =>
      intro j u hj
      have hl := H.out.len
      have hlt : j < n := by
        by_cases hc : j < n
        · exact hc
        · rw [List.getElem?_eq_none (by simp [W32]; omega)] at hj; cases hj
      have := H.out.cell j hlt
      simp only [W32, List.getElem?_map, List.getElem?_eq_getElem (show j < ws.length by omega), Option.map_some, Option.some.injEq] at hj
      subst hj
      rw [getD_elem _ _ (by omega)] at this
      rw [← this]
      unfold Addr.add
      split
      · rename_i h0; subst h0; rfl
      · rfl
    case c2 => intro u hu; simp only [W32, List.mem_map] at hu; obtain ⟨x, _, rfl⟩ := hu; rfl
    case c3 => unfold maxLen; omega
    case c4 => omega
    case c5 => exact Nat.le_refl _
    · intro v' w1 hown hg _
      go_wp2
      go_ret
      refine ⟨v', rfl, by simpa using hown, hg⟩
end Go.Proofs.Ytcfmipobgljbeaa
