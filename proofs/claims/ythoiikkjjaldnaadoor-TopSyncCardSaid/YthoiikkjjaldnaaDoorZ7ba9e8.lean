/- Texts that the law rests on, laid together: BigMul, BigInt, BigInt2, BigInt3, BigSum, BigISub, BigICmp, NumA. -/
import Derived.Test.YthoiikkjjaldnaaDoorZ631096
import Derived.Test.YthoiikkjjaldnaaDoorZ10bfcc
import Derived.Deep.RegionWith
import Derived.Deep.RegionHeld3
import Derived.Test.YthoiikkjjaldnaaDoorRows
import Derived.WalkKit
import Derived.WalkLawsBesides
/- The walk of mul on lists of words. -/
namespace Go.Proofs.YthoiikkjjaldnaaDoor
set_option linter.unusedVariables false
set_option linter.unusedSimpArgs false
set_option maxRecDepth 100000
open Go.RowKit

structure MulInv (w wr : World) (m : Nat) (V : Nat) (t : Nat) (rs : List Nat) : Prop where
  len : rs.length = m
  ok : wok rs
  val : wv rs = V
  top : ∀ j, t ≤ j → rs.getD j 0 = 0
  own : wr.ownsRow w.heap.size 176 1 (.slice (some ⟨w.heap.size, 0, none⟩) m m) m (W32 rs)
  bel : Below w.heap.size w wr

theorem MulInv.drewN {w wr : World} {m V t : Nat} {rs : List Nat} (h : MulInv w wr m V t rs) (n : Nat) : MulInv w (wr.drewN n) m V t rs :=
  ⟨h.len, h.ok, h.val, h.top, h.own, h.bel.trans ⟨rfl, rfl, rfl, Nat.le_refl _, fun _ _ => rfl⟩⟩

/-- A store of word p: the value turns by what the word turns. -/
theorem MulInv.step {w wr : World} {m V t : Nat} {rs : List Nat} (h : MulInv w wr m V t rs) {p x r V' : Nat} (hp : p < m) (hx : x < 4294967296) (hr : rs.getD p 0 = r)
    (hV : V' + 4294967296 ^ p * r = V + 4294967296 ^ p * x) (t' : Nat) (ht : t ≤ t') (hpt : p < t') :
    MulInv w (wr.setCell ⟨w.heap.size, p, none⟩ (.int .u32 (x : Nat))) m V' t' (rs.set p x) := by
  have hl := h.len
  refine ⟨by simpa using hl, wok_set h.ok _ hx, ?_, fun j hj => ?_, ?_, h.bel.setCell (Nat.le_refl _) _⟩
  · have e1 := wv_set (l := rs) (k := p) (by omega) x
    rw [hr, h.val] at e1
    omega
  · rw [getD_set _ _ _ _ (by omega), if_neg (by omega)]
    exact h.top j (by omega)
  · have := (h.own.stored p (.int .u32 (x : Nat))).1
    rwa [W32_set] at this

theorem mul_arith {c xa xb r : Nat} (hc : c < 4294967296) (ha : xa < 4294967296) (hb : xb < 4294967296) (hr : r < 4294967296) :
    c + (xa * xb + r) < 18446744073709551616 ∧ (c + (xa * xb + r)) / 4294967296 < 4294967296 := by
  have h1 : xa * xb ≤ 4294967295 * 4294967295 := Nat.mul_le_mul (by omega) (by omega)
  have h2 : c + (xa * xb + r) < 18446744073709551616 := by omega
  exact ⟨h2, by omega⟩

theorem mul_arith' {c xa xb r : Nat} (h : c + (xa * xb + r) < 18446744073709551616) :
    IntKind.u64.wrap ((c : Int) + IntKind.u64.wrap (IntKind.u64.wrap ((xa : Int) * xb) + r)) = ((c + (xa * xb + r) : Nat) : Int) := by
  have e : ∀ z, IntKind.u64.wrap z = z % 18446744073709551616 := by intro z; simp [IntKind.wrap, IntKind.signed, IntKind.bits]
  rw [e, e, e, show ((xa : Int) * xb) = ((xa * xb : Nat) : Int) from by simp]
  generalize xa * xb = p at *
  omega

theorem mul_V {B P V c xa xb r S : Nat} (hV : V + P * c = S) (hr : P * r ≤ V) :
    (V - P * r + P * ((c + (xa * xb + r)) % B)) + (P * B) * ((c + (xa * xb + r)) / B) = S + P * (xa * xb) := by
  rw [Nat.mul_assoc P, Nat.add_assoc, ← Nat.mul_add, Nat.mod_add_div]
  rw [Nat.mul_add, Nat.mul_add]
  omega

theorem getD_wv_le (l : List Nat) (p : Nat) : 4294967296 ^ p * l.getD p 0 ≤ wv l := by
  by_cases h : p < l.length
  · have e : wv l = wv (l.take (p + 1)) + 4294967296 ^ (p + 1) * wv (l.drop (p + 1)) := by
      conv => lhs; rw [← List.take_append_drop (p + 1) l]
      rw [wv_append, List.length_take, Nat.min_eq_left (by omega)]
    rw [e, wv_take_succ']
    omega
  · rw [List.getD_eq_getElem?_getD, List.getElem?_eq_none (by omega)]; simp

end Go.Proofs.YthoiikkjjaldnaaDoor

/- The walks of the methods of Int. -/
namespace Go.Proofs.YthoiikkjjaldnaaDoor
set_option linter.unusedVariables false
set_option linter.unusedSimpArgs false
set_option maxRecDepth 100000
open Go.RowKit

theorem heap_lt {w : World} {b : Nat} {o : Obj} (h : w.heap[b]? = some o) : b < w.heap.size := by
  by_cases hc : b < w.heap.size
  · exact hc
  · rw [Array.getElem?_eq_none (by omega)] at h; cases h

theorem grownBy_trans {a b c : World} {row : Option Nat} (h : a.grownBy b row) (k : b.grownBy c row) : a.grownBy c row :=
  ⟨k.os.trans h.os, k.tape.trans h.tape, k.output.trans h.output, Nat.le_trans h.size k.size, fun i hi hn => (k.block i (Nat.lt_of_lt_of_le hi h.size) hn).trans (h.block i hi hn)⟩
theorem grownBy_of_below {a b : World} {B : Nat} (h : Below B a b) (hB : a.heap.size ≤ B) (row : Option Nat) : a.grownBy b row :=
  ⟨h.os, h.tape, h.output, h.size, fun i hi _ => h.block i (by omega)⟩
theorem grownBy_drewN (w : World) (n : Nat) (row : Option Nat) : w.grownBy (w.drewN n) row := ⟨rfl, rfl, rfl, Nat.le_refl _, fun _ _ _ => rfl⟩
theorem below_of_grownBy {w0 w w' : World} {b : Nat} (h : Below w0.heap.size w0 w) (hg : w.grownBy w' (some b)) (hb : w0.heap.size ≤ b) : Below w0.heap.size w0 w' :=
  h.grown hg h.size (fun k hk => by cases hk; exact hb)

theorem Nm.drew {w : World} {v : Value} {n : Nat} (h : Nm w v n) : Nm w.drew v n := h.below (B := w.heap.size) ((Below.refl _ _).drew) (Nat.le_refl _)
theorem grownBy_setCell (w : World) (b o : Nat) (v : Value) : w.grownBy (w.setCell ⟨b, o, none⟩ v) (some b) :=
  ⟨rfl, rfl, rfl, by simp [World.setCell], fun k _ hn => Below.heap_setCell w _ v k (by simpa using hn)⟩

def sgn (neg : Bool) (n : Nat) : Int := if neg then -(n : Int) else n

theorem sgn_natAbs (neg : Bool) (n : Nat) : (sgn neg n).natAbs = n := by unfold sgn; split <;> omega
theorem sgn_lt (neg : Bool) (n : Nat) : decide (sgn neg n < 0) = (neg && decide (0 < n)) := by
  unfold sgn
  cases neg <;> simp <;> omega
theorem sgn_self (z : Int) : sgn (decide (z < 0)) z.natAbs = z := by
  unfold sgn
  by_cases h : z < 0
  · simp [h]; omega
  · simp [h]; omega

theorem sgn_mul_pow (z : Int) (n : Nat) : sgn (decide (z < 0)) (z.natAbs * 2 ^ n) = z * 2 ^ n := by
  have h1 := sgn_self z
  unfold sgn at *
  conv => rhs; rw [← h1]
  split <;> simp [Int.natCast_mul, Int.neg_mul]

end Go.Proofs.YthoiikkjjaldnaaDoor

/- The walks of SetInt64, NewInt, Uint64, Int64, Sign, Abs, Rsh. -/
namespace Go.Proofs.YthoiikkjjaldnaaDoor
set_option linter.unusedVariables false
set_option linter.unusedSimpArgs false
set_option maxRecDepth 100000
open Go.RowKit

theorem sm_of_lt {n : Nat} (h : n < 340282366920938463463374607431768211456) : Sm n := by
  have : (340282366920938463463374607431768211456 : Nat) = 4294967296 ^ 4 := rfl
  have h2 : (4294967296 : Nat) ^ 4 ≤ 4294967296 ^ 60 := Nat.pow_le_pow_right (by decide) (by decide)
  unfold Sm; omega

theorem u64_neg {x : Int} (h1 : -9223372036854775808 ≤ x) (h2 : x < 0) : IntKind.u64.wrap (-(IntKind.u64.wrap x)) = -x := by
  have e : ∀ z, IntKind.u64.wrap z = z % 18446744073709551616 := by intro z; simp [IntKind.wrap, IntKind.signed, IntKind.bits]
  rw [e, e]; omega

theorem Nm.cells {w : World} {v : Value} {n : Nat} (h : Nm w v n) (hn : n < 18446744073709551616) :
    ∃ ao len cap, v = .slice ao len cap ∧ ((len = 0 ∧ n = 0) ∨ (∃ g off, len = 1 ∧ ao = some ⟨g, off, none⟩ ∧ n < 4294967296 ∧ w.cell? ⟨g, off, none⟩ = some (.int .u32 (n : Nat))) ∨
      (∃ g off lo hi, len = 2 ∧ ao = some ⟨g, off, none⟩ ∧ lo < 4294967296 ∧ hi < 4294967296 ∧ n = lo + 4294967296 * hi ∧ w.cell? ⟨g, off, none⟩ = some (.int .u32 (lo : Nat)) ∧ w.cell? ⟨g, off + 1, none⟩ = some (.int .u32 (hi : Nat)))) := by
  obtain ⟨ao, len, cap, ws, rfl, hr, ht, rfl⟩ := h
  have hl : ws.length ≤ 2 := len_le_of_lt ht (n := 2) (by simpa using hn)
  have hlen := hr.len
  refine ⟨ao, len, cap, rfl, ?_⟩
  match ws, hlen, hr, ht, hn, hl with
  | [], hlen, hr, ht, hn, hl => exact .inl ⟨by simpa using hlen.symm, rfl⟩
  | [a], hlen, hr, ht, hn, hl =>
    obtain rfl : len = 1 := by simpa using hlen.symm
    obtain ⟨g, off, rfl⟩ := hr.addr (by omega)
    have hc := hr.cell 0 (by omega)
    have ha := (wok_cons.1 hr.ok).1
    exact .inr (.inl ⟨g, off, rfl, rfl, by simpa [wv] using ha, by simpa [wv] using hc⟩)
  | [a, b], hlen, hr, ht, hn, hl =>
    obtain rfl : len = 2 := by simpa using hlen.symm
    obtain ⟨g, off, rfl⟩ := hr.addr (by omega)
    have hc := hr.cell 0 (by omega)
    have hc1 := hr.cell 1 (by omega)
    have ha := (wok_cons.1 hr.ok).1
    have hb := (wok_cons.1 (wok_cons.1 hr.ok).2).1
    exact .inr (.inr ⟨g, off, a, b, rfl, rfl, ha, hb, by simp [wv], by simpa using hc, by simpa using hc1⟩)

theorem lohi {a b : Nat} (ha : a < 4294967296) (hb : b < 4294967296) : bits BinOp.or IntKind.u64 (a : Int) ((b : Int) * 4294967296) = ((a + 4294967296 * b : Nat) : Int) := by
  rw [show ((b : Int) * 4294967296) = ((b * 4294967296 : Nat) : Int) from by omega, u64_or_nat _ _ (by omega) (by omega), Nat.or_comm,
    nat_join 32 _ _ (by omega) (by omega), Nat.add_comm, Nat.mul_comm]

theorem i64_of {z : Int} (h1 : -9223372036854775808 ≤ z) (h2 : z < 0) : wrap64 (-(wrap64 (z.natAbs : Nat))) = z := by
  unfold wrap64; omega

end Go.Proofs.YthoiikkjjaldnaaDoor

/- The walks of Set, Neg, Abs, Rsh. -/
namespace Go.Proofs.YthoiikkjjaldnaaDoor
set_option linter.unusedVariables false
set_option linter.unusedSimpArgs false
set_option maxRecDepth 100000
open Go.RowKit

theorem sgn_neg (z : Int) : sgn (!decide (z < 0)) z.natAbs = -z := by
  unfold sgn
  by_cases h : z < 0
  · simp [h]; omega
  · simp [h]; omega

theorem Nm.one (w : World) : Nm (w.alloc (.cells #[.int .u32 1] 176)) (.slice (some ⟨w.heap.size, 0, none⟩) 1 1) 1 := by
  have hO := World.ownsRow_lit (base := w.heap.size) (e := 176) (size := 1) w #[.int .u32 ((1 : Nat) : Int)] 1 (Nat.le_refl _) (by unfold maxLen; omega) rfl
  obtain ⟨ao, cap, hv, hr, _⟩ := Rd.owned (ws := [1]) hO (by intro y hy; simp at hy; omega)
  injection hv with h1 h2 h3
  subst h1; subst h3
  exact ⟨_, 1, 1, [1], rfl, hr, by intro n hn; simp at hn; subst hn; decide, rfl⟩

theorem fdiv_neg {z : Int} (h : z < 0) (n : Nat) : z / 2 ^ n = -(((z.natAbs - 1) / 2 ^ n + 1 : Nat) : Int) := by
  have hp : (0 : Int) < 2 ^ n := Int.pow_pos (by decide)
  obtain ⟨m, rfl⟩ : ∃ m : Nat, z = -((m : Int) + 1) := ⟨z.natAbs - 1, by omega⟩
  have e1 : (-((m : Int) + 1)).natAbs - 1 = m := by omega
  rw [e1]
  have e2 : -((m : Int) + 1) / 2 ^ n = -((m : Int) / 2 ^ n) - 1 := by
    rw [show -((m : Int) + 1) = -(m : Int) - 1 from by omega]
    rw [Int.ediv_eq_iff_of_pos hp]
    have h1 := Int.mul_ediv_add_emod (m : Int) (2 ^ n)
    have h2 := Int.emod_nonneg (m : Int) (Int.ne_of_gt hp)
    have h3 := Int.emod_lt_of_pos (m : Int) hp
    generalize (m : Int) / 2 ^ n = q at *
    generalize (m : Int) % 2 ^ n = r at *
    generalize (2 : Int) ^ n = p at *
    have h4 : (-q - 1) * p = -(p * q) - p := by rw [Int.sub_mul, Int.neg_mul, Int.mul_comm q]; omega
    have h5 : (-q - 1 + 1) * p = -(p * q) := by rw [Int.sub_add_cancel, Int.neg_mul, Int.mul_comm q]
    first
      | (rw [h4, h5]; omega)
      | (constructor <;> (first | rw [h4] | rw [h5] | skip) <;> omega)
      | skip
  rw [e2]
  simp
  omega

end Go.Proofs.YthoiikkjjaldnaaDoor

/- The walks of sum, Add, Sub. -/
namespace Go.Proofs.YthoiikkjjaldnaaDoor
set_option linter.unusedVariables false
set_option linter.unusedSimpArgs false
set_option maxRecDepth 100000
open Go.RowKit

/-- What sum answers. -/
def Sums (w : World) (z : Int) (e : Ending) (w' : World) : Prop := ∃ neg v n, e = .returned (.tuple #[.bool neg, v]) ∧ Nm w' v n ∧ sgn neg n = z ∧ ∃ w1 k, w1 = w.drewN k ∧ Below w.heap.size w1 w'

theorem Sums.below {w w' : World} {z : Int} {e : Ending} (h : Sums w z e w') : Below w.heap.size w w' := by
  obtain ⟨_, _, _, _, _, _, w1, k, rfl, hb⟩ := h
  exact Below.trans (b := w.drewN k) ⟨rfl, rfl, rfl, Nat.le_refl _, fun _ _ => rfl⟩ hb

theorem below_drewN (w : World) (k : Nat) : Below w.heap.size w (w.drewN k) := ⟨rfl, rfl, rfl, Nat.le_refl _, fun _ _ => rfl⟩

end Go.Proofs.YthoiikkjjaldnaaDoor

/- The walks of Sub. -/
namespace Go.Proofs.YthoiikkjjaldnaaDoor
set_option linter.unusedVariables false
set_option linter.unusedSimpArgs false
set_option maxRecDepth 100000
open Go.RowKit

end Go.Proofs.YthoiikkjjaldnaaDoor

/- The walk of Cmp. -/
namespace Go.Proofs.YthoiikkjjaldnaaDoor
set_option linter.unusedVariables false
set_option linter.unusedSimpArgs false
set_option maxRecDepth 100000
open Go.RowKit

theorem below_drN (w : World) (k : Nat) : Below w.heap.size w (w.drewN k) := ⟨rfl, rfl, rfl, Nat.le_refl _, fun _ _ => rfl⟩

theorem quiet_more {f : FuncId} {args : Array Value} {w : World} {a n : Nat} {v : Value}
    (h : Calls Tryd.prog f args (w.drewN (a + n)) fun e w' => e = .returned v ∧ ∃ m, w' = (w.drewN (a + n)).drewN m) :
    Calls Tryd.prog f args (w.drewN (a + n)) fun e w'' => e = .returned v ∧ ∃ m, w'' = w.drewN (a + m) :=
  h.mono fun _ _ ⟨he, m, hm⟩ => ⟨he, n + m, by rw [hm, World.drewN_drewN, Nat.add_assoc]⟩

def cmpZ (x y : Int) : Int := if x < y then -1 else if y < x then 1 else 0

theorem cmpZ_pos {x y : Int} (hx : ¬ x < 0) (hy : ¬ y < 0) : cmpZ x y = cmpN x.natAbs y.natAbs := by
  unfold cmpZ cmpN
  repeat' split
  all_goals omega
theorem cmpZ_neg {x y : Int} (hx : x < 0) (hy : y < 0) : cmpZ x y = -cmpN x.natAbs y.natAbs := by
  unfold cmpZ cmpN
  repeat' split
  all_goals omega

theorem cmpN_range (a b : Nat) : -1 ≤ cmpN a b ∧ cmpN a b ≤ 1 := by
  unfold cmpN
  repeat' split
  all_goals omega

end Go.Proofs.YthoiikkjjaldnaaDoor

/- The walks of package basic's functions on numbers of 16 and 32 bits. -/
namespace Go.Proofs.YthoiikkjjaldnaaDoor
set_option linter.unusedVariables false
set_option linter.unusedSimpArgs false
set_option maxRecDepth 100000
open Go.RowKit

def lim (lo hi x : Int) : Int := if x < lo then lo else if hi < x then hi else x
def limd (lo hi x : Int) : Bool := if x < lo then true else if hi < x then true else false

theorem lim_range {lo hi : Int} (h : lo ≤ hi) (x : Int) : lo ≤ lim lo hi x ∧ lim lo hi x ≤ hi := by
  unfold lim; repeat' split
  all_goals omega

def s16 (x : Int) : Int := lim (-32768) 32767 x
def s32 (x : Int) : Int := lim (-2147483648) 2147483647 x
theorem s16_range (x : Int) : -32768 ≤ s16 x ∧ s16 x ≤ 32767 := lim_range (by omega) x
theorem s32_range (x : Int) : -2147483648 ≤ s32 x ∧ s32 x ≤ 2147483647 := lim_range (by omega) x
def d16 (x : Int) : Bool := limd (-32768) 32767 x
def d32 (x : Int) : Bool := limd (-2147483648) 2147483647 x

/-- What a function answers that gives a number and whether it was stopped, and leaves the world alone. -/
def Pair (w : World) (n : Int) (b : Bool) (e : Ending) (w' : World) : Prop := e = .returned (.tuple #[.int .i64 n, .bool b]) ∧ w = w'

theorem stop_any (x lo hi : Int) (w : World) :
    Calls Tryd.prog 92 #[.int .i64 x, .int .i64 lo, .int .i64 hi] w (Pair w (lim lo hi x) (limd lo hi x)) := by
  unfold lim limd
  go_enter Tryd.func92, Tryd.ntmps92
  go_wp2
  all_goals (go_ret2; exact ⟨by simp [*], rfl⟩)

theorem sat16_any (x : Int) (w : World) : Calls Tryd.prog 75 #[.int .i64 x] w (Pair w (s16 x) (d16 x)) := by
  go_enter Tryd.func75, Tryd.ntmps75
  go_wp2_with (go_at_call 92; refine (stop_any _ _ _ _).mono ?_; rintro e w' ⟨rfl, rfl⟩)
  go_ret2
  exact ⟨rfl, rfl⟩

end Go.Proofs.YthoiikkjjaldnaaDoor
