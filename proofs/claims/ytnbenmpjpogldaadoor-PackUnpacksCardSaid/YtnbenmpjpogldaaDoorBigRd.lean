/- What a slice of 32-bit words in memory reads as. -/
import Derived.Test.YtnbenmpjpogldaaDoorRows
import Derived.Test.YtnbenmpjpogldaaDoorBigMath
import Derived.WalkKit

namespace Go.Proofs.YtnbenmpjpogldaaDoor
set_option linter.unusedVariables false
set_option linter.unusedSimpArgs false
set_option maxRecDepth 100000
open Go.RowKit

/-- A fact laid aside: the walk's simp does not look behind the name. -/
theorem hid {p : Prop} (h : p) : Hid p := h

def W32 (ws : List Nat) : List Value := ws.map (fun (n : Nat) => Value.int .u32 (n : Int))

/-- A slice at 'ao' of n words (room for cap) reads as ws, in world w. -/
structure Rd (w : World) (ao : Option Addr) (n cap : Nat) (ws : List Nat) : Prop where
  len : ws.length = n
  room : n ≤ cap
  big : cap ≤ maxLen
  ok : wok ws
  at_ : ao = none → n = 0 ∧ cap = 0
  cells : ∀ a, ao = some a → a.spot = none ∧ ∃ cur fz, w.heap[a.block]? = some (.cells cur 73 fz) ∧ ∀ i, i < n → cur[a.off + i]? = some (.int .u32 (ws.getD i 0 : Nat))

theorem Rd.lim {w : World} {ao : Option Addr} {n cap : Nat} {ws : List Nat} (h : Rd w ao n cap ws) : n ≤ 9223372036854775807 ∧ cap ≤ 9223372036854775807 := by
  have h1 := h.room
  have h2 := h.big
  unfold maxLen at h2
  omega

theorem Rd.nil (w : World) : Rd w none 0 0 [] := ⟨rfl, Nat.le_refl _, by unfold maxLen; omega, wok_nil, fun _ => ⟨rfl, rfl⟩, fun a h => by cases h⟩

theorem Rd.addr {w : World} {ao : Option Addr} {n cap : Nat} {ws : List Nat} (h : Rd w ao n cap ws) (hn : 0 < n) :
    ∃ g off, ao = some ⟨g, off, none⟩ := by
  cases ao with
  | none => have := h.at_ rfl; omega
  | some a =>
    obtain ⟨b, o, s⟩ := a
    have := (h.cells _ rfl).1
    simp only at this
    subst this
    exact ⟨b, o, rfl⟩

theorem Rd.cell {w : World} {g off n cap : Nat} {ws : List Nat} (h : Rd w (some ⟨g, off, none⟩) n cap ws) (i : Nat) (hi : i < n) :
    w.cell? ⟨g, off + i, none⟩ = some (.int .u32 (ws.getD i 0 : Nat)) := by
  obtain ⟨_, cur, fz, hh, hc⟩ := h.cells _ rfl
  have := hc i hi
  simp only [World.cell?, hh, this]
  rfl

theorem Rd.lt {w : World} {ao : Option Addr} {n cap : Nat} {ws : List Nat} (h : Rd w ao n cap ws) : ∀ a, ao = some a → a.block < w.heap.size := by
  intro a ha
  obtain ⟨_, cur, fz, hh, _⟩ := h.cells a ha
  by_cases hc : a.block < w.heap.size
  · exact hc
  · rw [Array.getElem?_eq_none (by omega)] at hh; cases hh

theorem Rd.of_block {w w' : World} {ao : Option Addr} {n cap : Nat} {ws : List Nat} (h : Rd w ao n cap ws)
    (hk : ∀ a, ao = some a → w'.heap[a.block]? = w.heap[a.block]?) : Rd w' ao n cap ws :=
  ⟨h.len, h.room, h.big, h.ok, h.at_, fun a ha => by
    obtain ⟨h1, cur, fz, hh, hc⟩ := h.cells a ha
    exact ⟨h1, cur, fz, by rw [hk a ha]; exact hh, hc⟩⟩

theorem Rd.below {w w' : World} {ao : Option Addr} {n cap : Nat} {ws : List Nat} (h : Rd w ao n cap ws) {B : Nat} (hb : Below B w w')
    (hB : w.heap.size ≤ B) : Rd w' ao n cap ws :=
  h.of_block fun a ha => hb.block _ (by have := h.lt a ha; omega)

theorem Rd.take {w : World} {ao : Option Addr} {n cap : Nat} {ws : List Nat} (h : Rd w ao n cap ws) (k : Nat) (hk : k ≤ n) : Rd w ao k cap (ws.take k) :=
  ⟨by rw [List.length_take, h.len]; omega, by have := h.room; omega, h.big, wok_take h.ok k, fun ha => by have := h.at_ ha; omega,
   fun a ha => by
    obtain ⟨h1, cur, fz, hh, hc⟩ := h.cells a ha
    refine ⟨h1, cur, fz, hh, fun i hi => ?_⟩
    rw [hc i (by omega)]
    have : (ws.take k).getD i 0 = ws.getD i 0 := by
      rw [List.getD_eq_getElem?_getD, List.getElem?_take, if_pos hi, ← List.getD_eq_getElem?_getD]
    rw [this]⟩

/-- What a call owns reads. -/
theorem Rd.owned {w : World} {base : Nat} {v : Value} {n : Nat} {ws : List Nat} (h : w.ownsRow base 73 1 v n (W32 ws)) (ok : wok ws) :
    ∃ ao cap, v = .slice ao n cap ∧ Rd w ao n cap ws ∧ (∀ a, ao = some a → base ≤ a.block ∧ a.off = 0 ∧ w.frozen? a = false) := by
  obtain ⟨hl, h2⟩ := h
  have hl' : ws.length = n := by simpa [W32] using hl
  rcases h2 with ⟨rfl, rfl⟩ | ⟨g, cap, cur, rfl, hg, hh, hnc, hcm, hcs, htake⟩
  · obtain rfl : ws = [] := List.length_eq_zero_iff.1 hl'
    exact ⟨none, 0, rfl, Rd.nil w, fun a ha => by cases ha⟩
  · refine ⟨some ⟨g, 0, none⟩, cap, rfl, ⟨hl', hnc, hcm, ok, (fun ha => by cases ha), fun a ha => ?_⟩, fun a ha => ?_⟩
    · obtain rfl := Option.some.inj ha
      refine ⟨rfl, cur, (0, 0), hh, fun i hi => ?_⟩
      have h3 : (W32 ws)[i]? = some (.int .u32 (ws.getD i 0 : Nat)) := by
        simp only [W32, List.getElem?_map]
        rw [List.getElem?_eq_getElem (by omega), getD_elem _ _ (by omega)]; rfl
      rw [← htake, List.getElem?_take, if_pos (by omega)] at h3
      simpa using h3
    · obtain rfl := Option.some.inj ha
      exact ⟨hg, rfl, by simp [World.frozen?, hh]⟩

/-- A slice value that reads as the number n: its words tight. -/
def Nm (w : World) (v : Value) (n : Nat) : Prop := ∃ ao len cap ws, v = .slice ao len cap ∧ Rd w ao len cap ws ∧ tight ws ∧ wv ws = n

theorem Nm.below {w w' : World} {v : Value} {n : Nat} (h : Nm w v n) {B : Nat} (hb : Below B w w') (hB : w.heap.size ≤ B) : Nm w' v n := by
  obtain ⟨ao, len, cap, ws, rfl, hr, ht, hn⟩ := h
  exact ⟨ao, len, cap, ws, rfl, hr.below hb hB, ht, hn⟩

theorem Nm.nil (w : World) : Nm w (.slice none 0 0) 0 := ⟨none, 0, 0, [], rfl, Rd.nil w, tight_nil, rfl⟩
end Go.Proofs.YtnbenmpjpogldaaDoor
