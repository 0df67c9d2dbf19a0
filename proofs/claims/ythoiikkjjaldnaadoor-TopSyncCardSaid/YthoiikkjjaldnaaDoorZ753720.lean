/- Texts that the law rests on, laid together: BigDiv, BigDiv1, BigQuo, BigAddO. -/
import Derived.Test.YthoiikkjjaldnaaDoorZ104825
import Derived.Test.YthoiikkjjaldnaaDoorZ7ba9e8
import Derived.Deep.RegionWith
/- The walks of div (short numbers), QuoRem, DivMod, Div. -/
namespace Go.Proofs.YthoiikkjjaldnaaDoor
set_option linter.unusedVariables false
set_option linter.unusedSimpArgs false
set_option maxRecDepth 100000
open Go.RowKit

/-- What div answers. -/
def DivGives (w : World) (q r : Nat) (e : Ending) (w' : World) : Prop := ∃ v1 v2, e = .returned (.tuple #[v1, v2]) ∧ Nm w' v1 q ∧ Nm w' v2 r ∧ Below w.heap.size w w'

theorem Nm.drewN {w : World} {v : Value} {n : Nat} (h : Nm w v n) (k : Nat) : Nm (w.drewN k) v n := h.below (B := w.heap.size) ⟨rfl, rfl, rfl, Nat.le_refl _, fun _ _ => rfl⟩ (Nat.le_refl _)

end Go.Proofs.YthoiikkjjaldnaaDoor

/- The walks of small, and of div where it has one word below. -/
namespace Go.Proofs.YthoiikkjjaldnaaDoor
set_option linter.unusedVariables false
set_option linter.unusedSimpArgs false
set_option maxRecDepth 100000
open Go.RowKit

/-- What small answers. -/
def SmGives (w : World) (q r : Nat) (e : Ending) (w' : World) : Prop := ∃ v, e = .returned (.tuple #[v, .int .u32 (r : Nat)]) ∧ Nm w' v q ∧ Below w.heap.size w w'

structure SmInv (w wr : World) (an : Nat) (ua : List Nat) (d k r : Nat) (rs : List Nat) : Prop where
  len : rs.length = an
  ok : wok rs
  lt : r < d
  val : wv (ua.drop k) = d * wv (rs.drop k) + r
  own : wr.ownsRow w.heap.size 176 1 (.slice (some ⟨w.heap.size, 0, none⟩) an an) an (W32 rs)
  bel : Below w.heap.size w wr

theorem drop_set_succ (l : List Nat) (k x : Nat) (h : k < l.length) : (l.set k x).drop k = x :: l.drop (k + 1) := by
  rw [List.set_eq_take_append_cons_drop, if_pos h, List.drop_append, List.drop_of_length_le (by rw [List.length_take]; omega), List.length_take, Nat.min_eq_left (by omega)]
  simp

theorem SmInv.step {w wr : World} {an : Nat} {ua : List Nat} {d k r : Nat} {rs : List Nat} (h : SmInv w wr an ua d (k + 1) r rs) (hk : k < an) (hl : ua.length = an) (hd : d < 4294967296) (hxa : ua.getD k 0 < 4294967296) :
    SmInv w (wr.setCell ⟨w.heap.size, k, none⟩ (.int .u32 (((r * 4294967296 + ua.getD k 0) / d : Nat) : Int))) an ua d k ((r * 4294967296 + ua.getD k 0) % d) (rs.set k ((r * 4294967296 + ua.getD k 0) / d)) ∧ (r * 4294967296 + ua.getD k 0) / d < 4294967296 := by
  have hrl := h.len
  have hlt := h.lt
  have hq : (r * 4294967296 + ua.getD k 0) / d < 4294967296 := by
    rw [Nat.div_lt_iff_lt_mul (by omega)]
    have := Nat.mul_le_mul_right 4294967296 (show r + 1 ≤ d by omega)
    rw [Nat.mul_comm 4294967296 d]
    omega
  refine ⟨⟨by simpa using h.len, wok_set h.ok k hq, Nat.mod_lt _ (by omega), ?_, ?_, h.bel.setCell (Nat.le_refl _) _⟩, hq⟩
  · rw [drop_set_succ _ _ _ (by omega), drop_getD ua k (by omega), wv, wv, h.val]
    have h1 := Nat.div_add_mod (r * 4294967296 + ua.getD k 0) d
    generalize ua.getD k 0 = x at *
    generalize wv (rs.drop (k + 1)) = W at *
    generalize (r * 4294967296 + x) / d = Q at *
    generalize (r * 4294967296 + x) % d = R at *
    rw [Nat.mul_add, Nat.mul_add]
    have h2 : 4294967296 * (d * W) = d * (4294967296 * W) := by rw [← Nat.mul_assoc, Nat.mul_comm 4294967296 d, Nat.mul_assoc]
    rw [h2]
    omega
  · have := (h.own.stored k (.int .u32 (((r * 4294967296 + ua.getD k 0) / d : Nat) : Int))).1
    rwa [W32_set] at this

theorem small_or {r x : Nat} (hr : r < 4294967296) (hx : x < 4294967296) : bits BinOp.or IntKind.u64 ((r : Int) * 4294967296) (x : Int) = ((r * 4294967296 + x : Nat) : Int) := by
  rw [show ((r : Int) * 4294967296) = ((r * 4294967296 : Nat) : Int) from by omega, u64_or_nat _ _ (by omega) (by omega),
    nat_join 32 _ _ (by omega) (by omega)]

theorem Nm.one_word (w : World) (r : Nat) (h : r < 4294967296) : ∀ c, (w.alloc (.cells #[.int .u32 (r : Nat)] 176)).ownsRow c 176 1 (.slice (some ⟨w.heap.size, 0, none⟩) 1 1) 1 (W32 [r]) ∨ ¬ c ≤ w.heap.size := fun c => by
  by_cases hc : c ≤ w.heap.size
  · exact .inl (World.ownsRow_lit (base := c) (e := 176) (size := 1) w #[.int .u32 (r : Nat)] 1 hc (by unfold maxLen; omega) rfl)
  · exact .inr hc

end Go.Proofs.YthoiikkjjaldnaaDoor

/- The walks of QuoRem, DivMod, Div (short numbers). -/
namespace Go.Proofs.YthoiikkjjaldnaaDoor
set_option linter.unusedVariables false
set_option linter.unusedSimpArgs false
set_option maxRecDepth 100000
open Go.RowKit

theorem sgn_tdiv (x y : Int) : sgn (!(decide (x < 0) == decide (y < 0))) (x.natAbs / y.natAbs) = x.tdiv y := by
  unfold sgn
  rcases Int.natAbs_eq x with hx | hx <;> rcases Int.natAbs_eq y with hy | hy
  all_goals
    generalize x.natAbs = a at *
    generalize y.natAbs = b at *
    subst hx hy
    try simp only [Int.neg_tdiv, Int.tdiv_neg, Int.neg_neg]
    have e : ((a : Int).tdiv b) = ((a / b : Nat) : Int) := by rw [Int.tdiv_eq_ediv_of_nonneg (by omega)]; simp
    rw [e]
    by_cases ha : a = 0
    · subst ha; simp
    · by_cases hb : b = 0
      · subst hb; simp
      · simp <;> (try omega)
        try (split <;> omega)

theorem sgn_tmod (x y : Int) : sgn (decide (x < 0)) (x.natAbs % y.natAbs) = x.tmod y := by
  unfold sgn
  rcases Int.natAbs_eq x with hx | hx <;> rcases Int.natAbs_eq y with hy | hy
  all_goals
    generalize x.natAbs = a at *
    generalize y.natAbs = b at *
    subst hx hy
    try simp only [Int.neg_tmod, Int.tmod_neg, Int.neg_neg]
    have e : ((a : Int).tmod b) = ((a % b : Nat) : Int) := by rw [Int.tmod_eq_emod_of_nonneg (by omega)]; simp
    rw [e]
    by_cases ha : a = 0
    · subst ha; simp
    · simp <;> (try omega)
      try (split <;> omega)

theorem grownBy_new {w w' : World} {m : Nat} (h : w.grownBy w' (some m)) (hm : w.heap.size ≤ m) (row : Option Nat) : w.grownBy w' row :=
  ⟨h.os, h.tape, h.output, h.size, fun k hk _ => h.block k hk (by simp; omega)⟩

theorem tdiv_of_nonneg_rem {x y : Int} (hy : 0 < y) (h : ¬ x.tmod y < 0) : x.tdiv y = x / y := by
  have h1 := Int.mul_tdiv_add_tmod x y
  have h2 : x.tmod y < y := Int.tmod_lt_of_pos x hy
  symm
  rw [Int.ediv_eq_iff_of_pos hy]
  generalize x.tdiv y = q at *
  generalize x.tmod y = r at *
  have e1 : q * y = y * q := Int.mul_comm _ _
  have e2 : (q + 1) * y = y * q + y := by rw [Int.add_mul, Int.one_mul, Int.mul_comm]
  first
    | (rw [e1, e2]; omega)
    | (constructor <;> (first | rw [e1] | rw [e2] | skip) <;> omega)

theorem tdiv_of_neg_rem {x y : Int} (hy : 0 < y) (h : x.tmod y < 0) : x.tdiv y - 1 = x / y := by
  have h1 := Int.mul_tdiv_add_tmod x y
  have h2 : -y < x.tmod y := Int.lt_tmod_of_pos x hy
  symm
  rw [Int.ediv_eq_iff_of_pos hy]
  generalize x.tdiv y = q at *
  generalize x.tmod y = r at *
  have e1 : (q - 1) * y = y * q - y := by rw [Int.sub_mul, Int.one_mul, Int.mul_comm]
  have e2 : (q - 1 + 1) * y = y * q := by rw [Int.sub_add_cancel, Int.mul_comm]
  first
    | (rw [e1, e2]; omega)
    | (constructor <;> (first | rw [e1] | rw [e2] | skip) <;> omega)
end Go.Proofs.YthoiikkjjaldnaaDoor

/- The walk of Add, whatever Ints are one. -/
namespace Go.Proofs.YthoiikkjjaldnaaDoor
set_option linter.unusedVariables false
set_option linter.unusedSimpArgs false
set_option maxRecDepth 100000
open Go.RowKit

end Go.Proofs.YthoiikkjjaldnaaDoor
