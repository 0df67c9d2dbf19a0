/- The walks of the methods of Int. -/
import Derived.Test.YtnbenmpjpogldaaDoorBigMul
import Derived.Test.YtnbenmpjpogldaaDoorBigSub
import Derived.Deep.RegionWith
import Derived.Deep.RegionHeld3
namespace Go.Proofs.YtnbenmpjpogldaaDoor
set_option linter.unusedVariables false
set_option linter.unusedSimpArgs false
set_option maxRecDepth 100000
open Go.RowKit

/-- Block b is an Int, whatever it holds. -/
def IntBlk (w : World) (b : Nat) : Prop := ∃ x y, w.heap[b]? = some (.cells #[x, y] 54 (0, 0))

/-- Block b is an Int that reads as z. -/
def IntAt (w : World) (b : Nat) (z : Int) : Prop := ∃ v, w.heap[b]? = some (.cells #[.bool (decide (z < 0)), v] 54 (0, 0)) ∧ Nm w v z.natAbs

theorem IntAt.blk {w : World} {b : Nat} {z : Int} (h : IntAt w b z) : IntBlk w b := by
  obtain ⟨v, h1, _⟩ := h; exact ⟨_, _, h1⟩

theorem heap_lt {w : World} {b : Nat} {o : Obj} (h : w.heap[b]? = some o) : b < w.heap.size := by
  by_cases hc : b < w.heap.size
  · exact hc
  · rw [Array.getElem?_eq_none (by omega)] at h; cases h

theorem IntBlk.lt {w : World} {b : Nat} (h : IntBlk w b) : b < w.heap.size := by
  obtain ⟨x, y, h⟩ := h; exact heap_lt h
theorem IntAt.lt {w : World} {b : Nat} {z : Int} (h : IntAt w b z) : b < w.heap.size := h.blk.lt

theorem IntAt.cells {w : World} {b : Nat} {z : Int} (h : IntAt w b z) : ∃ v, w.cell? ⟨b, 0, none⟩ = some (.bool (decide (z < 0))) ∧ w.cell? ⟨b, 1, none⟩ = some v ∧ Nm w v z.natAbs := by
  obtain ⟨v, h1, h2⟩ := h
  exact ⟨v, by simp [World.cell?, h1], by simp [World.cell?, h1], h2⟩

/-- A number of words stays where only an Int's block is written. -/
theorem Nm.kept {w w' : World} {v : Value} {n : Nat} (h : Nm w v n) {b : Nat} (hb : IntBlk w b) (hg : w.grownBy w' (some b)) : Nm w' v n := by
  obtain ⟨ao, len, cap, ws, rfl, hr, ht, hn⟩ := h
  refine ⟨ao, len, cap, ws, rfl, hr.of_block fun a ha => hg.block _ (hr.lt a ha) ?_, ht, hn⟩
  intro he
  obtain ⟨_, cur, fz, hh, _⟩ := hr.cells a ha
  obtain ⟨x, y, hb⟩ := hb
  have := Option.some.inj he
  rw [this, hb] at hh
  simp at hh

theorem IntAt.kept {w w' : World} {c : Nat} {z : Int} (h : IntAt w c z) {b : Nat} (hb : IntBlk w b) (hg : w.grownBy w' (some b)) (hne : c ≠ b) : IntAt w' c z := by
  obtain ⟨v, h1, h2⟩ := h
  exact ⟨v, by rw [hg.block c (heap_lt h1) (by simpa using hne)]; exact h1, h2.kept hb hg⟩

theorem IntAt.below {w w' : World} {b : Nat} {z : Int} (h : IntAt w b z) {B : Nat} (hb : Below B w w') (hB : w.heap.size ≤ B) : IntAt w' b z := by
  obtain ⟨v, h1, h2⟩ := h
  exact ⟨v, by rw [hb.block b (by have := heap_lt h1; omega)]; exact h1, h2.below hb hB⟩
theorem IntBlk.below {w w' : World} {b : Nat} (h : IntBlk w b) {B : Nat} (hb : Below B w w') (hB : w.heap.size ≤ B) : IntBlk w' b := by
  obtain ⟨x, y, h1⟩ := h
  exact ⟨x, y, by rw [hb.block b (by have := heap_lt h1; omega)]; exact h1⟩
theorem IntBlk.kept {w w' : World} {c : Nat} (h : IntBlk w c) {b : Nat} (hg : w.grownBy w' (some b)) (hne : c ≠ b) : IntBlk w' c := by
  obtain ⟨x, y, h1⟩ := h
  exact ⟨x, y, by rw [hg.block c (heap_lt h1) (by simpa using hne)]; exact h1⟩

theorem grownBy_trans {a b c : World} {row : Option Nat} (h : a.grownBy b row) (k : b.grownBy c row) : a.grownBy c row :=
  ⟨k.os.trans h.os, k.tape.trans h.tape, k.output.trans h.output, Nat.le_trans h.size k.size, fun i hi hn => (k.block i (Nat.lt_of_lt_of_le hi h.size) hn).trans (h.block i hi hn)⟩
theorem grownBy_of_below {a b : World} {B : Nat} (h : Below B a b) (hB : a.heap.size ≤ B) (row : Option Nat) : a.grownBy b row :=
  ⟨h.os, h.tape, h.output, h.size, fun i hi _ => h.block i (by omega)⟩
theorem grownBy_drewN (w : World) (n : Nat) (row : Option Nat) : w.grownBy (w.drewN n) row := ⟨rfl, rfl, rfl, Nat.le_refl _, fun _ _ _ => rfl⟩
theorem below_of_grownBy {w0 w w' : World} {b : Nat} (h : Below w0.heap.size w0 w) (hg : w.grownBy w' (some b)) (hb : w0.heap.size ≤ b) : Below w0.heap.size w0 w' :=
  h.grown hg h.size (fun k hk => by cases hk; exact hb)

theorem Nm.drew {w : World} {v : Value} {n : Nat} (h : Nm w v n) : Nm w.drew v n := h.below (B := w.heap.size) ((Below.refl _ _).drew) (Nat.le_refl _)
theorem IntAt.drew {w : World} {b : Nat} {z : Int} (h : IntAt w b z) : IntAt w.drew b z := h.below (B := w.heap.size) ((Below.refl _ _).drew) (Nat.le_refl _)
theorem IntBlk.drew {w : World} {b : Nat} (h : IntBlk w b) : IntBlk w.drew b := h
theorem IntAt.drewN {w : World} {b : Nat} {z : Int} (h : IntAt w b z) (n : Nat) : IntAt (w.drewN n) b z := h.below (B := w.heap.size) ⟨rfl, rfl, rfl, Nat.le_refl _, fun _ _ => rfl⟩ (Nat.le_refl _)

/-- What a method answers that makes z in block b. -/
def Gives (w : World) (b : Nat) (z : Int) (e : Ending) (w' : World) : Prop := e = .returned (.pointer (some ⟨b, 0, none⟩)) ∧ IntAt w' b z ∧ w.grownBy w' (some b)

theorem grownBy_setCell (w : World) (b o : Nat) (v : Value) : w.grownBy (w.setCell ⟨b, o, none⟩ v) (some b) :=
  ⟨rfl, rfl, rfl, by simp [World.setCell], fun k _ hn => Below.heap_setCell w _ v k (by simpa using hn)⟩

def sgn (neg : Bool) (n : Nat) : Int := if neg then -(n : Int) else n

theorem sgn_natAbs (neg : Bool) (n : Nat) : (sgn neg n).natAbs = n := by unfold sgn; split <;> omega
theorem sgn_lt (neg : Bool) (n : Nat) : decide (sgn neg n < 0) = (neg && decide (0 < n)) := by
  unfold sgn
  cases neg <;> simp <;> omega
theorem sgn_self (z : Int) : sgn (decide (z < 0)) z.natAbs = z := by
  unfold sgn
  by_cases h : z < 0
  · simp [h]; omega
  · simp [h]; omega

theorem sgn_mul_pow (z : Int) (n : Nat) : sgn (decide (z < 0)) (z.natAbs * 2 ^ n) = z * 2 ^ n := by
  have h1 := sgn_self z
  unfold sgn at *
  conv => rhs; rw [← h1]
  split <;> simp [Int.natCast_mul, Int.neg_mul]

theorem setCells_int {w : World} {b : Nat} {x y : Value} (h : w.heap[b]? = some (.cells #[x, y] 54 (0, 0))) (x' y' : Value) :
    ((w.setCell ⟨b, 1, none⟩ y').setCell ⟨b, 0, none⟩ x').heap[b]? = some (.cells #[x', y'] 54 (0, 0)) := by
  have h2 := heap_setCell_same w b 1 #[x, y] 54 y' h
  have h3 := heap_setCell_same (w.setCell ⟨b, 1, none⟩ y') b 0 _ 54 x' h2
  rw [h3]
  simp

set_option maxHeartbeats 1000000 in
theorem give_any (w : World) (b : Nat) (neg : Bool) (v : Value) (n : Nat) (hb : IntBlk w b) (hv : Nm w v n) :
    Calls Tryd.prog 31 #[.pointer (some ⟨b, 0, none⟩), .bool neg, v] w (Gives w b (sgn neg n)) := by
  obtain ⟨x, y, hh⟩ := hb
  have hc0 : w.cell? ⟨b, 0, none⟩ = some x := by simp [World.cell?, hh]
  have hc1 : w.cell? ⟨b, 1, none⟩ = some y := by simp [World.cell?, hh]
  have hf0 : w.frozen? ⟨b, 0, none⟩ = false := by simp [World.frozen?, hh]
  have hf1 : w.frozen? ⟨b, 1, none⟩ = false := by simp [World.frozen?, hh]
  have HH := hid hh
  have HV := hid hv
  clear hh
  obtain ⟨ao, len, cap, ws, rfl, hr, ht, hn⟩ := hv
  have hlen := hr.lim.1
  have key : decide (sgn neg n < 0) = (neg && decide (0 < len)) := by
    rw [sgn_lt]
    congr 1
    have h1 := wv_zero_iff ht
    have h2 := hr.len
    by_cases h0 : len = 0
    · subst h0
      have : n = 0 := by rw [← hn, h1]; exact List.length_eq_zero_iff.1 h2
      simp [this]
    · have : n ≠ 0 := by rw [← hn]; intro h; rw [h1] at h; subst h; simp at h2; omega
      simp; omega
  have KEY := hid key
  clear hr ht hn key
  have fin : ∀ t : Bool, t = (neg && decide (0 < len)) → Gives w b (sgn neg n) (.returned (.pointer (some ⟨b, 0, none⟩))) ((w.setCell ⟨b, 1, none⟩ (.slice ao len cap)).setCell ⟨b, 0, none⟩ (.bool t)) := by
    intro t ht
    refine ⟨rfl, ⟨.slice ao len cap, ?_, ?_⟩, ?_⟩
    · rw [KEY.out, ← ht]
      exact setCells_int HH.out _ _
    · rw [sgn_natAbs]
      exact HV.out.kept ⟨x, y, HH.out⟩ (grownBy_trans (grownBy_setCell _ _ _ _) (grownBy_setCell _ _ _ _))
    · exact grownBy_trans (grownBy_setCell _ _ _ _) (grownBy_setCell _ _ _ _)
  have FIN := hid fin
  clear fin
  by_cases h0 : 0 < len
  · cases neg
    · go_enter Tryd.func31, Tryd.ntmps31
      go_wp2
      go_ret
      exact FIN.out false (by simp)
    · go_enter Tryd.func31, Tryd.ntmps31
      go_wp2
      go_ret
      exact FIN.out true (by simp [h0])
  · cases neg
    · go_enter Tryd.func31, Tryd.ntmps31
      go_wp2
      go_ret
      exact FIN.out false (by simp)
    · go_enter Tryd.func31, Tryd.ntmps31
      go_wp2
      go_ret
      exact FIN.out false (by simp [h0])

set_option maxHeartbeats 1000000 in
theorem Lsh_any (w : World) (b c : Nat) (z : Int) (n : Nat) (hb : IntBlk w b) (hc : IntAt w c z) (hs : Sm z.natAbs) (hn : n ≤ 1000) :
    Calls Tryd.prog 18 #[.pointer (some ⟨b, 0, none⟩), .pointer (some ⟨c, 0, none⟩), .int .u64 (n : Nat)] w (Gives w b (z * 2 ^ n)) := by
  obtain ⟨v, h0, h1, hv⟩ := hc.cells
  have HB := hid hb
  have HV := hid hv
  have hlt := hc.lt
  clear hb hv hc
  go_enter Tryd.func18, Tryd.ntmps18
  go_wp2_with fail
  go_region_with (first
    | (go_at_call 32; refine (left_any w.drew v z.natAbs n HV.out.drew hs hn).mono ?_; rintro e w1 ⟨⟨v', rfl, hnm⟩, hb⟩; have q0 := (Below.cell hb (p := ⟨c, 0, none⟩) hlt).trans h0; have q1 := hid hb; have q2 := hid hnm; clear hb hnm)
    | (go_at_call 31; refine (give_any _ b _ _ (z.natAbs * 2 ^ n) (HB.out.drew.below q1.out (Nat.le_refl _)) q2.out).mono ?_; rintro e w2 ⟨rfl, hI, hG⟩; have q4 := hid (And.intro hI hG); clear hI hG))
  all_goals
    go_wp2
    go_ret
    refine ⟨rfl, ?_, ?_⟩
    · have := q4.out.1
      rw [sgn_mul_pow] at this
      exact this
    · exact grownBy_trans (grownBy_of_below (Below.drew (Below.refl w.heap.size w)) (Nat.le_refl _) _) (grownBy_trans (grownBy_of_below q1.out (Nat.le_refl _) _) q4.out.2)
end Go.Proofs.YtnbenmpjpogldaaDoor
