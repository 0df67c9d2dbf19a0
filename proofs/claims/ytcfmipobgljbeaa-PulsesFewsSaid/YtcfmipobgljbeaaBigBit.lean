/- SetBit of Int, for small numbers. -/
import Derived.Test.YtcfmipobgljbeaaBigInt3
import Derived.Laws.CopyOwn
namespace Go.Proofs.Ytcfmipobgljbeaa
set_option linter.unusedVariables false
set_option linter.unusedSimpArgs false
set_option maxRecDepth 100000
open Go.RowKit

theorem or_top {z i m : Nat} (hz : z = m * 2 ^ (i + 1)) : z ||| 2 ^ i = z + 2 ^ i := by
  rw [hz, Nat.mul_comm m]
  exact (Nat.two_pow_add_eq_or_of_lt (Nat.pow_lt_pow_right (by decide) (by omega)) m).symm
theorem or32 {z p : Nat} (e : z ||| p = z + p) (h : z + p < 4294967296) : bits BinOp.or IntKind.u32 (z : Nat) (p : Nat) = ((z + p : Nat) : Int) := by
  have hlt : (BitVec.ofInt 32 (z : Int) ||| BitVec.ofInt 32 (p : Int)).toNat = z + p := by
    rw [BitVec.ofInt_natCast, BitVec.ofInt_natCast, BitVec.toNat_or, BitVec.toNat_ofNat, BitVec.toNat_ofNat, Nat.mod_eq_of_lt (by omega), Nat.mod_eq_of_lt (by omega), e]
  show IntKind.u32.wrap ((BitVec.ofInt 32 (z : Int) ||| BitVec.ofInt 32 (p : Int)).toNat : Int) = _
  rw [hlt, IntKind.wrap_u32]
  omega
theorem or64 {z p : Nat} (e : z ||| p = z + p) (h : z + p < 4294967296) : bits BinOp.or IntKind.i64 (z : Nat) (p : Nat) = ((z + p : Nat) : Int) := by
  have hlt : (BitVec.ofInt 64 (z : Int) ||| BitVec.ofInt 64 (p : Int)).toNat = z + p := by
    rw [BitVec.ofInt_natCast, BitVec.ofInt_natCast, BitVec.toNat_or, BitVec.toNat_ofNat, BitVec.toNat_ofNat, Nat.mod_eq_of_lt (by omega), Nat.mod_eq_of_lt (by omega), e]
  show IntKind.i64.wrap ((BitVec.ofInt 64 (z : Int) ||| BitVec.ofInt 64 (p : Int)).toNat : Int) = _
  rw [hlt, IntKind.wrap_i64]
  omega
theorem andnot32 {z i m : Nat} (hz : z = m * 2 ^ (i + 1)) (h : z + 2 ^ i < 4294967296) : bits BinOp.andNot IntKind.u32 (z : Nat) ((2 ^ i : Nat) : Int) = (z : Nat) := by
  have hz2 : z < 4294967296 := Nat.lt_of_le_of_lt (Nat.le_add_right _ _) h
  have hlt : (BitVec.ofInt 32 (z : Int) &&& ~~~ BitVec.ofInt 32 ((2 ^ i : Nat) : Int)) = BitVec.ofNat 32 z := by
    rw [BitVec.ofInt_natCast, BitVec.ofInt_natCast]
    apply BitVec.eq_of_getLsbD_eq
    intro j hj
    simp only [BitVec.getLsbD_and, BitVec.getLsbD_not, BitVec.getLsbD_ofNat, hj, decide_true, Bool.true_and]
    rw [Nat.testBit_two_pow, hz, Nat.mul_comm m, Nat.testBit_two_pow_mul]
    by_cases hij : i = j
    · subst hij; simp; omega
    · simp [hij]
  show IntKind.u32.wrap ((BitVec.ofInt 32 (z : Int) &&& ~~~ BitVec.ofInt 32 ((2 ^ i : Nat) : Int)).toNat : Int) = _
  rw [hlt, BitVec.toNat_ofNat, IntKind.wrap_u32, Nat.mod_eq_of_lt (by simpa using hz2)]
  clear h hz hlt
  omega

/-- Two words in a new block. -/
def LowTwo (w : World) (n : Nat) (e : Ending) (w' : World) : Prop :=
  e = .returned (.slice (some ⟨w.heap.size, 0, none⟩) 2 2) ∧ w'.heap[w.heap.size]? = some (.cells #[.int .u32 (n : Nat), .int .u32 0] 95 (0, 0)) ∧ Below w.heap.size w w'

theorem owns_two {w : World} {base g : Nat} {n : Nat} {l : List Value} (h : w.ownsRow base 95 1 (.slice (some ⟨g, 0, none⟩) n n) n l) (hn : l.length = n) : w.heap[g]? = some (.cells l.toArray 95 (0, 0)) := by
  obtain ⟨hl, h2⟩ := h
  rcases h2 with ⟨h3, _⟩ | ⟨g', cap, cur, he, hg, hh, hnc, hcm, hcs, htake⟩
  · cases h3
  · cases he
    rw [hh]
    congr 2
    apply Array.ext'
    rw [← htake]
    rw [List.take_of_length_le]
    simp
    omega


theorem rd_two {w : World} {g t : Nat} (hg : w.heap[g]? = some (.cells #[.int .u32 (t : Nat), .int .u32 0] 95 (0, 0))) (ht : t < 4294967296) : Rd w (some ⟨g, 0, none⟩) 2 2 [t, 0] :=
  ⟨rfl, Nat.le_refl _, by decide, by
    rw [wok_cons, wok_cons]; exact ⟨ht, by decide, wok_nil⟩, fun h => (by cases h), fun a ha => by
    obtain rfl := Option.some.inj ha
    refine ⟨rfl, _, _, hg, fun i hi => ?_⟩
    match i, hi with
    | 0, _ => rfl
    | 1, _ => rfl⟩


end Go.Proofs.Ytcfmipobgljbeaa
