/- Plain facts on the places that go best. -/
import Derived.Test.YtcfmipobgljbeaaScoM
import Derived.Test.YtcfmipobgljbeaaBetterM
namespace Go.Proofs.Ytcfmipobgljbeaa
set_option linter.unusedVariables false
set_option linter.unusedSimpArgs false
set_option maxRecDepth 100000
open Go.RowKit

def Z4 : List Int := [0, 0, 0, 0]
/-- What a search remembers: the places, whether there are none yet, their sums. -/
structure Bst where
  at_ : List Int
  first : Bool
  c : Int
  e : Int
def bst0 : Bst := ⟨Z4, true, 0, 0⟩
def bstS (d ring : List Int) (s : Bst) (x : List Int) : Bst := if s.first || betterB (scC d x 4) (scE d ring x) s.c s.e then ⟨x, false, scC d x 4, scE d ring x⟩ else s
def bestL (d ring : List Int) (l : List (List Int)) : Bst := l.foldl (bstS d ring) bst0
theorem bestL_snoc (d ring : List Int) (l : List (List Int)) (x : List Int) : bestL d ring (l ++ [x]) = bstS d ring (bestL d ring l) x := by
  unfold bestL
  rw [List.foldl_append]
  rfl
theorem ix_Z4 : Ix Z4 := ⟨rfl, by decide⟩
theorem bstS_ix {d ring x : List Int} {s : Bst} (h : Ix s.at_) (hx : Ix x) : Ix (bstS d ring s x).at_ := by
  unfold bstS
  split
  · exact hx
  · exact h
theorem bestL_ix {d ring : List Int} : ∀ {l : List (List Int)} {s : Bst}, Ix s.at_ → (∀ x ∈ l, Ix x) → Ix (l.foldl (bstS d ring) s).at_
  | [], _, h, _ => h
  | x :: l, s, h, hl => bestL_ix (l := l) (bstS_ix h (hl x (List.mem_cons_self ..))) fun y hy => hl y (List.mem_cons_of_mem _ hy)
theorem bstS_64 {d ring x : List Int} {s : Bst} (h : (-9223372036854775808 ≤ s.c ∧ s.c ≤ 9223372036854775807) ∧ -9223372036854775808 ≤ s.e ∧ s.e ≤ 9223372036854775807) : (-9223372036854775808 ≤ (bstS d ring s x).c ∧ (bstS d ring s x).c ≤ 9223372036854775807) ∧ -9223372036854775808 ≤ (bstS d ring s x).e ∧ (bstS d ring s x).e ≤ 9223372036854775807 := by
  unfold bstS
  split
  · have := scE_range d ring x
    exact ⟨scC_64 d x 4, by show -9223372036854775808 ≤ scE d ring x; omega, by show scE d ring x ≤ 9223372036854775807; omega⟩
  · exact h
theorem bestL_64 {d ring : List Int} : ∀ {l : List (List Int)} {s : Bst}, ((-9223372036854775808 ≤ s.c ∧ s.c ≤ 9223372036854775807) ∧ -9223372036854775808 ≤ s.e ∧ s.e ≤ 9223372036854775807) → ((-9223372036854775808 ≤ (l.foldl (bstS d ring) s).c ∧ (l.foldl (bstS d ring) s).c ≤ 9223372036854775807) ∧ -9223372036854775808 ≤ (l.foldl (bstS d ring) s).e ∧ (l.foldl (bstS d ring) s).e ≤ 9223372036854775807)
  | [], _, h => h
  | x :: l, s, h => bestL_64 (l := l) (bstS_64 h)
theorem bst_first (d ring : List Int) : ∀ (l : List (List Int)) (s : Bst), (l.foldl (bstS d ring) s).first = (s.first && l.isEmpty)
  | [], s => by simp
  | x :: l, s => by
    show (l.foldl (bstS d ring) (bstS d ring s x)).first = _
    rw [bst_first d ring l]
    unfold bstS
    cases hs : s.first <;> simp [hs]
    split <;> simp [hs]

/-- A digit of a number of places. -/
def dig (n t : Nat) : Int := ((n / 10 ^ (3 - t) % 10 : Nat) : Int)
def allX (n : Nat) : List Int := [((n / 1000 : Nat) : Int), ((n / 100 % 10 : Nat) : Int), ((n / 10 % 10 : Nat) : Int), ((n % 10 : Nat) : Int)]
theorem allX_ix {n : Nat} (h : n < 10000) : Ix (allX n) := by
  refine ⟨rfl, ?_⟩
  unfold okIx allX
  simp only [List.all_cons, List.all_nil, Bool.and_true, Bool.and_eq_true, decide_eq_true_eq]
  omega
def allL (n : Nat) : List (List Int) := (List.range n).map allX
theorem allL_snoc (n : Nat) : allL (n + 1) = allL n ++ [allX n] := by unfold allL; rw [List.range_succ, List.map_append]; rfl
theorem allL_ix {n : Nat} (h : n ≤ 10000) : ∀ x ∈ allL n, Ix x := fun x hx => by
  unfold allL at hx
  obtain ⟨k, hk, rfl⟩ := List.mem_map.1 hx
  exact allX_ix (by have := List.mem_range.1 hk; omega)
/-- The places of one track, the others staying. -/
def fewX (now : List Int) (t p : Nat) : List Int := now.set t (p : Int)
def fewL (now : List Int) (t n : Nat) : List (List Int) := (List.range n).map (fewX now t)
theorem fewL_snoc (now : List Int) (t n : Nat) : fewL now t (n + 1) = fewL now t n ++ [fewX now t n] := by unfold fewL; rw [List.range_succ, List.map_append]; rfl
theorem okIx_set {x : List Int} (h : okIx x = true) (t : Nat) {p : Int} (hp : 0 ≤ p ∧ p ≤ 9) : okIx (x.set t p) = true := by
  unfold okIx at *
  rw [List.all_eq_true] at *
  intro y hy
  rcases List.mem_or_eq_of_mem_set hy with h1 | h1
  · exact h y h1
  · subst h1; simpa using hp
theorem fewX_ix {now : List Int} (h : Ix now) {t p : Nat} (hp : p < 10) : Ix (fewX now t p) := ⟨by unfold fewX; rw [List.length_set]; exact h.1, okIx_set h.2 t (by omega)⟩
theorem fewL_ix {now : List Int} (h : Ix now) (t : Nat) {n : Nat} (hn : n ≤ 10) : ∀ x ∈ fewL now t n, Ix x := fun x hx => by
  unfold fewL at hx
  obtain ⟨k, hk, rfl⟩ := List.mem_map.1 hx
  exact fewX_ix h (by have := List.mem_range.1 hk; omega)
/-- Behind k tracks of Few. -/
def fewN (d ring : List Int) : Nat → List Int
  | 0 => Z4
  | k + 1 => (bestL d ring (fewL (fewN d ring k) (k % 4) 10)).at_
theorem fewN_ix (d ring : List Int) (k : Nat) : Ix (fewN d ring k) := by
  induction k with
  | zero => exact ix_Z4
  | succ k ih => exact bestL_ix ix_Z4 (fewL_ix ih _ (Nat.le_refl _))
/-- The bits of pulses' signs. -/
def sgnN (d x : List Int) : Nat → Nat
  | 0 => 0
  | t + 1 => if 0 ≤ d.getD (plc x t) 0 then sgnN d x t + 2 ^ t else sgnN d x t
theorem sgnN_lt (d x : List Int) (t : Nat) : sgnN d x t < 2 ^ t := by
  induction t with
  | zero => simp [sgnN]
  | succ t ih =>
    unfold sgnN
    rw [Nat.pow_succ]
    split <;> omega
def sgnB (d x : List Int) (t : Nat) : Int := (sgnN d x t : Nat)
def seErr (d ring : List Int) : Int := if d.length = 40 ∧ ring.length = 40 then (if d.all (fun x => decide (-1099511627776 ≤ x ∧ x ≤ 1099511627776)) then 0 else 2) else 1
def seX (d ring x : List Int) : List Int := if seErr d ring = 0 then x else Z4
def seS (d ring x : List Int) : Int := if seErr d ring = 0 then sgnB d x 4 else 0
end Go.Proofs.Ytcfmipobgljbeaa
