/- Texts that the law rests on, laid together: BigMul, BigInt, BigInt2, BigInt3, BigSum, BigISub, BigICmp, NumA. -/
import Derived.Test.YthoiikkjjaldnaaDoorZ631096
import Derived.Test.YthoiikkjjaldnaaDoorZ10bfcc
import Derived.Deep.RegionWith
import Derived.Deep.RegionHeld3
import Derived.Test.YthoiikkjjaldnaaDoorRows
import Derived.WalkKit
import Derived.WalkLawsBesides
/- The walk of mul on lists of words. -/
namespace Go.Proofs.YthoiikkjjaldnaaDoor
set_option linter.unusedVariables false
set_option linter.unusedSimpArgs false
set_option maxRecDepth 100000
open Go.RowKit

structure MulInv (w wr : World) (m : Nat) (V : Nat) (t : Nat) (rs : List Nat) : Prop where
  len : rs.length = m
  ok : wok rs
  val : wv rs = V
  top : ∀ j, t ≤ j → rs.getD j 0 = 0
  own : wr.ownsRow w.heap.size 176 1 (.slice (some ⟨w.heap.size, 0, none⟩) m m) m (W32 rs)
  bel : Below w.heap.size w wr

theorem MulInv.drewN {w wr : World} {m V t : Nat} {rs : List Nat} (h : MulInv w wr m V t rs) (n : Nat) : MulInv w (wr.drewN n) m V t rs :=
  ⟨h.len, h.ok, h.val, h.top, h.own, h.bel.trans ⟨rfl, rfl, rfl, Nat.le_refl _, fun _ _ => rfl⟩⟩

/-- A store of word p: the value turns by what the word turns. -/
theorem MulInv.step {w wr : World} {m V t : Nat} {rs : List Nat} (h : MulInv w wr m V t rs) {p x r V' : Nat} (hp : p < m) (hx : x < 4294967296) (hr : rs.getD p 0 = r)
    (hV : V' + 4294967296 ^ p * r = V + 4294967296 ^ p * x) (t' : Nat) (ht : t ≤ t') (hpt : p < t') :
    MulInv w (wr.setCell ⟨w.heap.size, p, none⟩ (.int .u32 (x : Nat))) m V' t' (rs.set p x) := by
  have hl := h.len
  refine ⟨by simpa using hl, wok_set h.ok _ hx, ?_, fun j hj => ?_, ?_, h.bel.setCell (Nat.le_refl _) _⟩
  · have e1 := wv_set (l := rs) (k := p) (by omega) x
    rw [hr, h.val] at e1
    omega
  · rw [getD_set _ _ _ _ (by omega), if_neg (by omega)]
    exact h.top j (by omega)
  · have := (h.own.stored p (.int .u32 (x : Nat))).1
    rwa [W32_set] at this

end Go.Proofs.YthoiikkjjaldnaaDoor

/- The walks of the methods of Int. -/
namespace Go.Proofs.YthoiikkjjaldnaaDoor
set_option linter.unusedVariables false
set_option linter.unusedSimpArgs false
set_option maxRecDepth 100000
open Go.RowKit

theorem Nm.drew {w : World} {v : Value} {n : Nat} (h : Nm w v n) : Nm w.drew v n := h.below (B := w.heap.size) ((Below.refl _ _).drew) (Nat.le_refl _)
def sgn (neg : Bool) (n : Nat) : Int := if neg then -(n : Int) else n

end Go.Proofs.YthoiikkjjaldnaaDoor

/- The walks of SetInt64, NewInt, Uint64, Int64, Sign, Abs, Rsh. -/
namespace Go.Proofs.YthoiikkjjaldnaaDoor
set_option linter.unusedVariables false
set_option linter.unusedSimpArgs false
set_option maxRecDepth 100000
open Go.RowKit

theorem Nm.cells {w : World} {v : Value} {n : Nat} (h : Nm w v n) (hn : n < 18446744073709551616) :
    ∃ ao len cap, v = .slice ao len cap ∧ ((len = 0 ∧ n = 0) ∨ (∃ g off, len = 1 ∧ ao = some ⟨g, off, none⟩ ∧ n < 4294967296 ∧ w.cell? ⟨g, off, none⟩ = some (.int .u32 (n : Nat))) ∨
      (∃ g off lo hi, len = 2 ∧ ao = some ⟨g, off, none⟩ ∧ lo < 4294967296 ∧ hi < 4294967296 ∧ n = lo + 4294967296 * hi ∧ w.cell? ⟨g, off, none⟩ = some (.int .u32 (lo : Nat)) ∧ w.cell? ⟨g, off + 1, none⟩ = some (.int .u32 (hi : Nat)))) := by
  obtain ⟨ao, len, cap, ws, rfl, hr, ht, rfl⟩ := h
  have hl : ws.length ≤ 2 := len_le_of_lt ht (n := 2) (by simpa using hn)
  have hlen := hr.len
  refine ⟨ao, len, cap, rfl, ?_⟩
  match ws, hlen, hr, ht, hn, hl with
  | [], hlen, hr, ht, hn, hl => exact .inl ⟨by simpa using hlen.symm, rfl⟩
  | [a], hlen, hr, ht, hn, hl =>
    obtain rfl : len = 1 := by simpa using hlen.symm
    obtain ⟨g, off, rfl⟩ := hr.addr (by omega)
    have hc := hr.cell 0 (by omega)
    have ha := (wok_cons.1 hr.ok).1
    exact .inr (.inl ⟨g, off, rfl, rfl, by simpa [wv] using ha, by simpa [wv] using hc⟩)
  | [a, b], hlen, hr, ht, hn, hl =>
    obtain rfl : len = 2 := by simpa using hlen.symm
    obtain ⟨g, off, rfl⟩ := hr.addr (by omega)
    have hc := hr.cell 0 (by omega)
    have hc1 := hr.cell 1 (by omega)
    have ha := (wok_cons.1 hr.ok).1
    have hb := (wok_cons.1 (wok_cons.1 hr.ok).2).1
    exact .inr (.inr ⟨g, off, a, b, rfl, rfl, ha, hb, by simp [wv], by simpa using hc, by simpa using hc1⟩)

end Go.Proofs.YthoiikkjjaldnaaDoor

/- The walks of Set, Neg, Abs, Rsh. -/
namespace Go.Proofs.YthoiikkjjaldnaaDoor
set_option linter.unusedVariables false
set_option linter.unusedSimpArgs false
set_option maxRecDepth 100000
open Go.RowKit

theorem Nm.one (w : World) : Nm (w.alloc (.cells #[.int .u32 1] 176)) (.slice (some ⟨w.heap.size, 0, none⟩) 1 1) 1 := by
  have hO := World.ownsRow_lit (base := w.heap.size) (e := 176) (size := 1) w #[.int .u32 ((1 : Nat) : Int)] 1 (Nat.le_refl _) (by unfold maxLen; omega) rfl
  obtain ⟨ao, cap, hv, hr, _⟩ := Rd.owned (ws := [1]) hO (by intro y hy; simp at hy; omega)
  injection hv with h1 h2 h3
  subst h1; subst h3
  exact ⟨_, 1, 1, [1], rfl, hr, by intro n hn; simp at hn; subst hn; decide, rfl⟩

end Go.Proofs.YthoiikkjjaldnaaDoor

/- The walks of sum, Add, Sub. -/
namespace Go.Proofs.YthoiikkjjaldnaaDoor
set_option linter.unusedVariables false
set_option linter.unusedSimpArgs false
set_option maxRecDepth 100000
open Go.RowKit

/-- What sum answers. -/
def Sums (w : World) (z : Int) (e : Ending) (w' : World) : Prop := ∃ neg v n, e = .returned (.tuple #[.bool neg, v]) ∧ Nm w' v n ∧ sgn neg n = z ∧ ∃ w1 k, w1 = w.drewN k ∧ Below w.heap.size w1 w'

theorem Sums.below {w w' : World} {z : Int} {e : Ending} (h : Sums w z e w') : Below w.heap.size w w' := by
  obtain ⟨_, _, _, _, _, _, w1, k, rfl, hb⟩ := h
  exact Below.trans (b := w.drewN k) ⟨rfl, rfl, rfl, Nat.le_refl _, fun _ _ => rfl⟩ hb

end Go.Proofs.YthoiikkjjaldnaaDoor

/- The walks of Sub. -/
namespace Go.Proofs.YthoiikkjjaldnaaDoor
set_option linter.unusedVariables false
set_option linter.unusedSimpArgs false
set_option maxRecDepth 100000
open Go.RowKit

end Go.Proofs.YthoiikkjjaldnaaDoor

/- The walk of Cmp. -/
namespace Go.Proofs.YthoiikkjjaldnaaDoor
set_option linter.unusedVariables false
set_option linter.unusedSimpArgs false
set_option maxRecDepth 100000
open Go.RowKit

theorem below_drN (w : World) (k : Nat) : Below w.heap.size w (w.drewN k) := ⟨rfl, rfl, rfl, Nat.le_refl _, fun _ _ => rfl⟩

end Go.Proofs.YthoiikkjjaldnaaDoor

/- The walks of package basic's functions on numbers of 16 and 32 bits. -/
namespace Go.Proofs.YthoiikkjjaldnaaDoor
set_option linter.unusedVariables false
set_option linter.unusedSimpArgs false
set_option maxRecDepth 100000
open Go.RowKit

def lim (lo hi x : Int) : Int := if x < lo then lo else if hi < x then hi else x
def limd (lo hi x : Int) : Bool := if x < lo then true else if hi < x then true else false

theorem lim_range {lo hi : Int} (h : lo ≤ hi) (x : Int) : lo ≤ lim lo hi x ∧ lim lo hi x ≤ hi := by
  unfold lim; repeat' split
  all_goals omega

def s16 (x : Int) : Int := lim (-32768) 32767 x
theorem s16_range (x : Int) : -32768 ≤ s16 x ∧ s16 x ≤ 32767 := lim_range (by omega) x
def d16 (x : Int) : Bool := limd (-32768) 32767 x
/-- What a function answers that gives a number and whether it was stopped, and leaves the world alone. -/
def Pair (w : World) (n : Int) (b : Bool) (e : Ending) (w' : World) : Prop := e = .returned (.tuple #[.int .i64 n, .bool b]) ∧ w = w'

theorem stop_any (x lo hi : Int) (w : World) :
    Calls Tryd.prog 92 #[.int .i64 x, .int .i64 lo, .int .i64 hi] w (Pair w (lim lo hi x) (limd lo hi x)) := by
  unfold lim limd
  go_enter Tryd.func92, Tryd.ntmps92
  go_wp2
  all_goals (go_ret2; exact ⟨by simp [*], rfl⟩)

theorem sat16_any (x : Int) (w : World) : Calls Tryd.prog 75 #[.int .i64 x] w (Pair w (s16 x) (d16 x)) := by
  go_enter Tryd.func75, Tryd.ntmps75
  go_wp2_with (go_at_call 92; refine (stop_any _ _ _ _).mono ?_; rintro e w' ⟨rfl, rfl⟩)
  go_ret2
  exact ⟨rfl, rfl⟩

end Go.Proofs.YthoiikkjjaldnaaDoor
