/- Texts that the law rests on, laid together: OpenW, PikM, CorM, EqG, SignW. -/
import Derived.Test.YthoiikkjjaldnaaDoorZ9fe276
import Derived.Test.YthoiikkjjaldnaaDoorZb9fbdb
import Derived.Test.YthoiikkjjaldnaaDoorZ7f3e4a
import Derived.Test.YthoiikkjjaldnaaDoorZe90ea5
import Derived.Deep.RegionHeld3
import Derived.Test.YthoiikkjjaldnaaDoorZb1bb81
import Derived.Test.YthoiikkjjaldnaaDoorZ5b5962
import Derived.Test.YthoiikkjjaldnaaDoorZ6b4648
import Derived.Test.YthoiikkjjaldnaaDoorZ8ebc89
import Derived.Test.YthoiikkjjaldnaaDoorZ9f109e
import Derived.Test.YthoiikkjjaldnaaDoorZ0203b5
/- The walks of the program's dot and Open, the reference's Open, and of the law PitchOpens. -/
namespace Go.Proofs.YthoiikkjjaldnaaDoor
set_option linter.unusedVariables false
set_option linter.unusedSimpArgs false
set_option maxRecDepth 100000
open Go.RowKit

set_option maxHeartbeats 2000000 in
theorem pitchDot_any (A A2 : Option Addr) (cA cB n m : Nat) (xs ys : List Int) (w : World) (hx : Rs w w.heap.size A xs) (hy : Rs w w.heap.size A2 ys) (hn : xs.length = n) (hm : ys.length = m) (hnm : n ≤ m) (hl : n ≤ 1000) (h1 : In16 xs) (h2 : In16 ys) :
    Calls Tryd.prog 83 #[.slice A n cA, .slice A2 m cB] w fun e w' => e = .returned (.int .i64 (dotL xs ys n)) ∧ w = w' := by
  have HX := hid hx
  have HY := hid hy
  have HN := hid hn
  have HM := hid hm
  have H1 := hid h1
  have H2 := hid h2
  clear hx hy hn hm h1 h2
  go_enter Tryd.func83, Tryd.ntmps83
  go_wp2
  go_loop [5, 10] (fun sv iv => ∃ (k : Nat) (s : Int), k ≤ n ∧ iv = .int .i64 k ∧ sv = .int .i64 s ∧ Hid (s = dotL xs ys k)) (fun _ iv => n - (intOf iv).toNat)
  case atStart => exact ⟨0, 0, by omega, rfl, rfl, hid rfl⟩
  case round =>
    obtain ⟨k, s, hk, rfl, rfl, HS⟩ := hrel
    by_cases hlt : k < n
    · have dr := dotL_range H1.out H2.out k
      rw [← HS.out] at dr
      have s1 : -1073741824000 ≤ s := by omega
      have s2 : s ≤ 1073741824000 := by omega
      have ST := hid (show dotL xs ys (k + 1) = s + xs.getD k 0 * ys.getD k 0 by rw [HS.out]; rfl)
      obtain ⟨ad, rfl, _, k0⟩ := HX.out.at_ (k := k) (by rw [HN.out]; exact hlt)
      obtain ⟨ae, rfl, _, k1⟩ := HY.out.at_ (k := k) (by rw [HM.out]; omega)
      have x16 := H1.out k
      have y16 := H2.out k
      generalize xs.getD k 0 = x at *
      generalize ys.getD k 0 = y at *
      obtain ⟨p1, p2⟩ := prod16 x16.1 x16.2 y16.1 y16.2
      have i2 : (k : Int) < m := by omega
      clear dr
      go_wp2
      go_round
      case rel => exact ⟨k + 1, _, by omega, by go_num, rfl, hid ST.out.symm⟩
      case measure => simp [intOf] <;> omega
    · obtain rfl : k = n := by omega
      go_wp2
      go_ret
      exact ⟨by rw [← HS.out]; rfl, rfl⟩

/-! Plain facts: what goes best. -/
theorem self_nn (x : Int) : 0 ≤ x * x := by
  rcases Int.le_total 0 x with h | h
  · exact Int.mul_nonneg h h
  · have := Int.mul_nonneg (show 0 ≤ -x by omega) (show 0 ≤ -x by omega)
    rwa [Int.neg_mul_neg] at this
theorem sq_nn (b : List Int) (n : Nat) : 0 ≤ dotL b b n := by
  unfold dotL
  induction n with
  | zero => simp [sumN]
  | succ n ih =>
    simp only [sumN]
    have : 0 ≤ dterm b b n := by unfold dterm; exact self_nn _
    omega
theorem sq_zero {b : List Int} {n : Nat} (h : dotL b b n = 0) : ∀ i, i < n → b.getD i 0 = 0 := by
  induction n with
  | zero => intro i hi; omega
  | succ n ih =>
    intro i hi
    have h1 := sq_nn b n
    have h2 : 0 ≤ dterm b b n := by unfold dterm; exact self_nn _
    have h3 : dotL b b n + dterm b b n = 0 := h
    by_cases e : i = n
    · subst e
      have h4 : b.getD i 0 * b.getD i 0 = 0 := by unfold dterm at h3 h2; omega
      rcases Int.mul_eq_zero.1 h4 with h5 | h5 <;> exact h5
    · exact ih (by omega) i (by omega)
theorem dot_pos {a b : List Int} {n : Nat} (h : 0 < dotL a b n) : 0 < dotL b b n := by
  have h1 := sq_nn b n
  by_cases h0 : dotL b b n = 0
  · exfalso
    have hz := sq_zero h0
    have : dotL a b n = 0 := by
      unfold dotL
      rw [sumN_congr n (g := fun _ => 0) (fun i hi => by unfold dterm; rw [hz i hi]; simp)]
      exact sumN_zero n
    omega
  · omega

def opNow (l : List Int) : List Int := l.drop 79
def opWas (l : List Int) (o : Nat) : List Int := (l.drop o).take 80
def opC (l : List Int) (o : Nat) : Int := dotL (opNow l) (opWas l o) 80
def opE (l : List Int) (o : Nat) : Int := dotL (opWas l o) (opWas l o) 80
/-- Behind n lags: the best one, its sums. -/
def opS (l : List Int) : Nat → Int × Int × Int
  | 0 => (20, 0, 0)
  | n + 1 => if decide (0 < opC l (59 - n)) && betterB (opC l (59 - n)) (opE l (59 - n)) (opS l n).2.1 (opS l n).2.2 then (20 + (n : Int), opC l (59 - n), opE l (59 - n)) else opS l n
def opErr (l : List Int) : Int := if l.length = 159 then errOf (all16 l) else 1
def opV (l : List Int) : Int := if opErr l = 0 then (opS l 60).1 else 0
/-- Where nothing has gone yet, whatever goes is better. -/
theorem op_first {c e bc : Int} (h : 0 < c → 0 < e) : (decide (0 < c) && betterB c e bc 0) = decide (0 < c) := by
  by_cases hc : 0 < c
  · rw [better_yes (h hc) (by omega), decide_eq_true hc]; rfl
  · rw [decide_eq_false hc]; rfl
def OpAns (l : List Int) (w : World) (e : Ending) (w' : World) : Prop := e = .returned (.tuple #[.int .i64 (opV l), .int .i64 (opErr l)]) ∧ Below w.heap.size w w'
theorem OpAns.bad {l : List Int} {w w' : World} {er : Int} (h : opErr l = er) (h0 : er ≠ 0) (hB : Below w.heap.size w w') : OpAns l w (.returned (.tuple #[.int .i64 0, .int .i64 er])) w' :=
  ⟨by rw [show opV l = 0 by unfold opV; rw [if_neg (by rw [h]; exact h0)], h], hB⟩




theorem rs_block1 {w : World} {g : Nat} {t : TypeId} {xs : List Int} (h : IB w g t xs) : Rs w w.heap.size (some ⟨g, 0, none⟩) xs :=
  ⟨by simp [ints], fun _ => ⟨_, rfl, Blk.lt h, fun j u hu => by
    have hj : j < xs.length := by
      have := (List.getElem?_eq_some_iff.mp hu).1
      rwa [ints_len] at this
    rw [ints_get xs j hj] at hu
    rw [add_zero', ← hu]
    exact IB.cell h j hj⟩⟩

end Go.Proofs.YthoiikkjjaldnaaDoor

/- Plain facts on the lag that goes best. -/
namespace Go.Proofs.YthoiikkjjaldnaaDoor
set_option linter.unusedVariables false
set_option linter.unusedSimpArgs false
set_option maxRecDepth 100000
open Go.RowKit

theorem w64_of_in16 {xs : List Int} (h : In16 xs) : W64 xs := fun x hx => by
  obtain ⟨i, hi⟩ := List.getElem?_of_mem hx
  have := h i
  rw [List.getD_eq_getElem?_getD, hi] at this
  simp at this
  omega
theorem all16_of {xs : List Int} (h : ∀ i, i < xs.length → -32768 ≤ xs.getD i 0 ∧ xs.getD i 0 ≤ 32767) : all16 xs = true := by
  unfold all16
  rw [List.all_eq_true]
  intro x hx
  obtain ⟨i, hi⟩ := List.getElem?_of_mem hx
  have hl := (List.getElem?_eq_some_iff.1 hi).1
  have := h i hl
  rw [List.getD_eq_getElem?_getD, hi] at this
  simp at this
  exact ok16_yes this.1 this.2
theorem pastL_in {h : List Int} (hh : In16 h) (lag : Int) : all16 (pastL h lag) = true := by
  unfold pastL
  split
  · refine all16_of fun i hi => ?_
    rw [List.length_map, List.length_range] at hi
    rw [range_get _ hi]
    exact hh _
  · rfl
theorem foL_in (r l : List Int) : all16 (foL r l) = true := by
  unfold foL
  split
  · refine all16_of fun i hi => ?_
    rw [List.length_map, List.length_range] at hi
    rw [range_get _ hi]
    exact s16_range _
  · rfl
/-- Is the ring one that folds forty samples? -/
def pkR (ring : List Int) : Bool := decide (ring.length = 40) && all16 ring
theorem pk_fo {ring v : List Int} (hv : v.length = 40) (ha : all16 v = true) : (foL ring v).length = if pkR ring then 40 else 0 := by
  unfold pkR
  by_cases h : ring.length = 40
  · rw [decide_eq_true h, Bool.true_and]
    have he : foErr ring v = errOf (all16 ring) := by
      rw [foErr_all (by omega) (by omega)]
      unfold foB
      rw [ha, Bool.and_true]
    cases hr : all16 ring with
    | true => rw [hr] at he; rw [foL_good he, List.length_map, List.length_range, hv]; rfl
    | false => rw [hr] at he; rw [foL_bad (by rw [he]; decide)]; rfl
  · rw [decide_eq_false h, Bool.false_and]
    rw [foL_bad (by rw [foErr_len (by omega)]; decide)]
    rfl
def piV (ring h : List Int) (n : Nat) : List Int := foL ring (pastL h (20 + (n : Int)))
def pkC (ring h t : List Int) (n : Nat) : Int := dotL t (piV ring h n) 40
def pkE (ring h : List Int) (n : Nat) : Int := dotL (piV ring h n) (piV ring h n) 40
/-- Behind n lags: the best one, its sums. -/
def pkS (ring h t : List Int) : Nat → Int × Int × Int
  | 0 => (20, 0, 0)
  | n + 1 => if decide (0 < pkC ring h t n) && betterB (pkC ring h t n) (pkE ring h n) (pkS ring h t n).2.1 (pkS ring h t n).2.2 then (20 + (n : Int), pkC ring h t n, pkE ring h n) else pkS ring h t n
theorem pkV_in (ring h : List Int) (n : Nat) : In16 (piV ring h n) := all16_at (foL_in _ _)
theorem pkS_be (ring h t : List Int) (n : Nat) : 0 ≤ (pkS ring h t n).2.2 := by
  induction n with
  | zero => simp [pkS]
  | succ n ih =>
    unfold pkS
    split
    · exact sq_nn _ _
    · exact ih
theorem pkS_rng (ring h : List Int) {t : List Int} (ht : In16 t) (n : Nat) : (-42949672960 ≤ (pkS ring h t n).2.1 ∧ (pkS ring h t n).2.1 ≤ 42949672960) ∧ -42949672960 ≤ (pkS ring h t n).2.2 ∧ (pkS ring h t n).2.2 ≤ 42949672960 := by
  induction n with
  | zero => simp [pkS]
  | succ n ih =>
    have r1 := dotL_range ht (pkV_in ring h n) 40
    have r2 := dotL_range (pkV_in ring h n) (pkV_in ring h n) 40
    unfold pkS
    split
    · simp only
      unfold pkC pkE
      omega
    · exact ih
theorem pkS_lag (ring h t : List Int) (n : Nat) (hn : n ≤ 60) : 20 ≤ (pkS ring h t n).1 ∧ (pkS ring h t n).1 ≤ 79 := by
  induction n with
  | zero => simp [pkS]
  | succ n ih =>
    unfold pkS
    split
    · simp only
      omega
    · exact ih (by omega)
def piErr (ring h t : List Int) : Int := if t.length = 40 then (if all16 t && all16 h then (if pkR ring then 0 else 1) else 2) else 1
def piA (ring h t : List Int) : Int := if piErr ring h t = 0 then (pkS ring h t 60).1 else 0
def piB (ring h t : List Int) : Int := if piErr ring h t = 0 then (pkS ring h t 60).2.1 else 0
def pkD (ring h t : List Int) : Int := if piErr ring h t = 0 then (pkS ring h t 60).2.2 else 0
def PkAns (ring h t : List Int) (w : World) (e : Ending) (w' : World) : Prop := e = .returned (.tuple #[.int .i64 (piA ring h t), .int .i64 (piB ring h t), .int .i64 (pkD ring h t), .int .i64 (piErr ring h t)]) ∧ Below w.heap.size w w'
theorem PkAns.bad {ring h t : List Int} {w w' : World} {er : Int} (he : piErr ring h t = er) (h0 : er ≠ 0) (hB : Below w.heap.size w w') : PkAns ring h t w (.returned (.tuple #[.int .i64 0, .int .i64 0, .int .i64 0, .int .i64 er])) w' :=
  ⟨by unfold piA piB pkD; rw [he, if_neg h0, if_neg h0, if_neg h0], hB⟩
end Go.Proofs.YthoiikkjjaldnaaDoor

/- Plain facts on the sums of products of windowed samples. -/
namespace Go.Proofs.YthoiikkjjaldnaaDoor
set_option linter.unusedVariables false
set_option linter.unusedSimpArgs false
set_option maxRecDepth 100000
open Go.RowKit

theorem wgt_range (i : Int) : 0 ≤ wgt i ∧ wgt i ≤ 32767 := by
  by_cases h : i < 0 ∨ 120 ≤ i
  · rw [wgt_out h]; omega
  by_cases h2 : i < 60
  · rw [wgt_low (by omega) h2]; omega
  · rw [wgt_high (by omega) (by omega)]; omega
/-- The sample i behind the window. -/
def corW (l : List Int) (i : Nat) : Int := (l.getD i 0 * wgt (i : Nat) + 16384) / 32768
theorem corW_range {l : List Int} (h : In16 l) (i : Nat) : -32768 ≤ corW l i ∧ corW l i ≤ 32768 := by
  have h1 := h i
  have h2 := wgt_range (i : Nat)
  unfold corW
  generalize l.getD i 0 = x at *
  generalize wgt (i : Nat) = y at *
  have := mul_bound (x := x) (X := 32768) (y := y) (Y := 32767) (by omega) (by omega) ⟨by omega, by omega⟩ ⟨by omega, by omega⟩
  omega
def corT (l : List Int) (k i : Nat) : Int := corW l i * corW l (i + k)
/-- The sum k, of so many products. -/
def corS (l : List Int) (k n : Nat) : Int := sumN (corT l k) n
theorem corT_range {l : List Int} (h : In16 l) (k i : Nat) : -1073741824 ≤ corT l k i ∧ corT l k i ≤ 1073741824 := by
  have h1 := corW_range h i
  have h2 := corW_range h (i + k)
  have := mul_bound (x := corW l i) (X := 32768) (y := corW l (i + k)) (Y := 32768) (by omega) (by omega) ⟨by omega, by omega⟩ ⟨by omega, by omega⟩
  unfold corT
  omega
theorem corS_range {l : List Int} (h : In16 l) (k n : Nat) (hn : n ≤ 120) : -128849018880 ≤ corS l k n ∧ corS l k n ≤ 128849018880 := by
  have : -(1073741824 * (n : Int)) ≤ corS l k n ∧ corS l k n ≤ 1073741824 * (n : Int) := by
    clear hn
    unfold corS
    induction n with
    | zero => simp [sumN]
    | succ n ih =>
      have := corT_range h k n
      simp only [sumN]
      push_cast
      omega
  omega
/-- The sum 0, one more. -/
def corZ (l : List Int) : Int := corS l 0 120 + 1
theorem sq_int (x : Int) : 0 ≤ x * x := by
  rcases Int.le_total 0 x with h | h
  · exact Int.mul_nonneg h h
  · exact Int.mul_nonneg_of_nonpos_of_nonpos h h
theorem two_ab (a b : Int) : -(a * a + b * b) ≤ 2 * (a * b) ∧ 2 * (a * b) ≤ a * a + b * b := by
  have h1 := sq_int (a + b)
  have h2 := sq_int (a - b)
  have e1 : (a + b) * (a + b) = a * a + 2 * (a * b) + b * b := by rw [Int.add_mul, Int.mul_add, Int.mul_add, Int.mul_comm b a]; omega
  have e2 : (a - b) * (a - b) = a * a - 2 * (a * b) + b * b := by rw [Int.sub_mul, Int.mul_sub, Int.mul_sub, Int.mul_comm b a]; omega
  omega
def sqs (l : List Int) (n : Nat) : Int := sumN (fun i => corW l i * corW l i) n
theorem sqs_nn (l : List Int) (n : Nat) : 0 ≤ sqs l n := by
  unfold sqs
  induction n with
  | zero => simp [sumN]
  | succ n ih => simp only [sumN]; have := sq_int (corW l n); omega
theorem sqs_mono (l : List Int) {m n : Nat} (h : m ≤ n) : sqs l m ≤ sqs l n := by
  induction n with
  | zero => obtain rfl : m = 0 := by omega
            exact Int.le_refl _
  | succ n ih =>
    by_cases e : m = n + 1
    · subst e; exact Int.le_refl _
    · have := ih (by omega)
      have h2 := sq_int (corW l n)
      unfold sqs at *
      simp only [sumN]
      omega
theorem sqs_shift (l : List Int) (k n : Nat) : sumN (fun i => corW l (i + k) * corW l (i + k)) n ≤ sqs l (n + k) := by
  induction n with
  | zero => simpa [sumN] using sqs_nn l (0 + k)
  | succ n ih =>
    simp only [sumN]
    have e : sqs l (n + 1 + k) = sqs l (n + k) + corW l (n + k) * corW l (n + k) := by
      rw [show n + 1 + k = (n + k) + 1 by omega]
      rfl
    rw [e]
    omega
/-- No sum is beyond the sum 0. -/
theorem cor_le (l : List Int) {k n : Nat} (h : n + k ≤ 120) : -(corZ l - 1) ≤ corS l k n ∧ corS l k n ≤ corZ l - 1 := by
  have hz : corZ l - 1 = sqs l 120 := by
    unfold corZ corS sqs
    rw [sumN_congr 120 (g := fun i => corW l i * corW l i) (fun i _ => by unfold corT; rw [Nat.add_zero])]
    omega
  have h1 : sqs l n ≤ sqs l 120 := sqs_mono l (by omega)
  have h2 := sqs_shift l k n
  have h3 : sqs l (n + k) ≤ sqs l 120 := sqs_mono l h
  have key : -(sqs l n + sumN (fun i => corW l (i + k) * corW l (i + k)) n) ≤ 2 * corS l k n ∧ 2 * corS l k n ≤ sqs l n + sumN (fun i => corW l (i + k) * corW l (i + k)) n := by
    clear h h1 h2 h3 hz
    unfold sqs corS
    induction n with
    | zero => simp [sumN]
    | succ n ih =>
      simp only [sumN]
      have := two_ab (corW l n) (corW l (n + k))
      unfold corT
      unfold corT at ih
      omega
  rw [hz]
  omega
theorem corZ_eq (l : List Int) : corZ l = sqs l 120 + 1 := by
  unfold corZ corS sqs
  rw [sumN_congr 120 (g := fun i => corW l i * corW l i) (fun i _ => by unfold corT; rw [Nat.add_zero])]
theorem corZ_range {l : List Int} (h : In16 l) : 1 ≤ corZ l ∧ corZ l ≤ 128849018881 := by
  have h1 := corS_range h 0 120 (by omega)
  have h2 := sqs_nn l 120
  have h3 := corZ_eq l
  unfold corZ at *
  generalize corS l 0 120 = s at *
  generalize sqs l 120 = q at *
  omega

/-! By how many places the sums are moved. -/
end Go.Proofs.YthoiikkjjaldnaaDoor

/- Whatever is built of numbers and truth values is the same as itself; a packet is. -/
namespace Go.Proofs.YthoiikkjjaldnaaDoor
set_option linter.unusedVariables false
set_option linter.unusedSimpArgs false
set_option maxRecDepth 100000
open Go.RowKit

def SameAt (d : Nat) (t : TypeId) (v : Value) : Prop := ∀ w, (Op.equalIn d t v v).run Tryd.prog w = .ok true w
def PartAt (t : TypeId) (xs : Array Value) (o : Nat) (v : Value) : Prop := ∀ w, (part t xs o).run Tryd.prog w = .ok v w
theorem SameAt.num (d : Nat) (x : Int) : SameAt (d + 1) 3 (.int .i64 x) := fun w => by
  rw [run_equalIn_int w d 3 .i64 .i64 _ _ Tryd.underlying3]
  simp
theorem SameAt.arr (d : Nat) {t : TypeId} {n : Nat} (ht : Tryd.prog.underlying t = some (.array n 3)) (xs : List Int) (hl : xs.length = n) : SameAt (d + 2) t (.agg (agi xs)) := run_equalIn_agi d ht xs hl
theorem PartAt.row {t : TypeId} {n o : Nat} (hs : ∀ w, (sizeOf t).run Tryd.prog w = .ok n w) (ha : ∀ w, (isAgg t).run Tryd.prog w = .ok true w) (cs A xs B : List Value) (he : cs = A ++ (xs ++ B)) (ho : A.length = o) (hl : xs.length = n) : PartAt t cs.toArray o (.agg xs.toArray) := fun w => by
  subst he
  subst ho
  subst hl
  have e : (A ++ (xs ++ B)).toArray.extract A.length (A.length + xs.length) = xs.toArray := by
    simp [List.extract_toArray]
  simp only [part, Sem.run_bind, ha, hs, Result.andThen_ok, if_true, Sem.run_pure, e]
theorem PartAt.cell {t : TypeId} {o : Nat} (ha : ∀ w, (isAgg t).run Tryd.prog w = .ok false w) (cs A B : List Value) (v : Value) (he : cs = A ++ (v :: B)) (ho : A.length = o) : PartAt t cs.toArray o v := fun w => by
  subst he
  subst ho
  simp [part, ha]
theorem eqFieldsG (d : Nat) (xs : Array Value) : ∀ fs : List Field, (∀ f ∈ fs, ∃ v, PartAt f.type xs f.offset v ∧ SameAt d f.type v) → ∀ w, (Op.eqFields d xs xs fs).run Tryd.prog w = .ok true w
  | [], _, w => by simp [Op.eqFields]
  | f :: fs, h, w => by
    obtain ⟨v, h1, h2⟩ := h f (by simp)
    have ih := eqFieldsG d xs fs (fun g hg => h g (by simp [hg])) w
    simp only [Op.eqFields, Sem.run_bind, Sem.run_ite]
    split
    · simp only [h1 w, h2 w, Result.andThen_ok, Bool.not_true, Bool.false_eq_true, if_false]
      exact ih
    · exact ih
theorem SameAt.struct {d : Nat} {t : TypeId} (ht : Tryd.prog.underlying t = some (.struct (Tryd.prog.fieldsOf t))) (hp : Tryd.prog.stoodInHeld t = false) (xs : Array Value) (l : List (TypeId × Nat))
    (e : (Tryd.prog.fieldsOf t).toList.map (fun f => (f.type, f.offset)) = l) (h : ∀ p ∈ l, ∃ v, PartAt p.1 xs p.2 v ∧ SameAt d p.1 v) : SameAt (d + 1) t (.agg xs) := fun w => by
  rw [run_equalIn_struct w d t xs xs ht hp]
  exact eqFieldsG d xs _ (fun f hf => h (f.type, f.offset) (by rw [← e]; exact List.mem_map_of_mem hf)) w
theorem SameAt.array {d : Nat} {t e : TypeId} {n k : Nat} (ht : Tryd.prog.underlying t = some (.array n e)) (hs : ∀ w, (sizeOf e).run Tryd.prog w = .ok k w) (xs : Array Value)
    (h : ∀ i, i < n → ∃ v, PartAt e xs (i * k) v ∧ SameAt d e v) : SameAt (d + 1) t (.agg xs) := fun w => by
  rw [Op.equalIn]
  simp only [Sem.run_bind, run_underlying ht, Result.andThen_ok, hs, Std.Legacy.Range.forIn_eq_forIn_range', Std.Legacy.Range.size, Nat.sub_zero, Nat.add_sub_cancel, Nat.div_one]
  have hl2 : ∀ i ∈ List.range' 0 n 1, i < n := fun i hi => by simpa using (List.mem_range'_1.1 hi).2
  generalize List.range' 0 n 1 = l at hl2 ⊢
  induction l with
  | nil => simp
  | cons i l ih =>
    obtain ⟨v, px, pe⟩ := h i (hl2 i (by simp))
    simp only [List.forIn_cons, Sem.run_bind, px w, pe w, Result.andThen_ok]
    simp only [Bool.not_true, Bool.false_eq_true, if_false, Sem.run_pure, Result.andThen_ok]
    exact ih fun j hj => hl2 j (by simp [hj])
theorem SameAt.eql {t : TypeId} {xs : Array Value} (h : SameAt 10000 t (.agg xs)) (w : World) : (binOp .eql t (.agg xs) (.agg xs)).run Tryd.prog w = .ok (.bool true) w := by
  rw [run_eql_struct, h w]
  rfl
theorem ints_cut (ps : List Int) (o n : Nat) : ints ps = ints (ps.take o) ++ (ints ((ps.drop o).take n) ++ ints (ps.drop (o + n))) := by
  rw [ints_append, ints_append, ← List.drop_drop, List.take_append_drop, List.take_append_drop]
end Go.Proofs.YthoiikkjjaldnaaDoor

/- The walk of package pulses' signs, and of the reference's. -/
namespace Go.Proofs.YthoiikkjjaldnaaDoor
set_option linter.unusedVariables false
set_option linter.unusedSimpArgs false
set_option maxRecDepth 100000
open Go.RowKit

theorem or_low {s i : Nat} (h : s < 2 ^ i) : s ||| 2 ^ i = s + 2 ^ i := by
  have := Nat.two_pow_add_eq_or_of_lt h 1
  rw [Nat.mul_one] at this
  rw [Nat.or_comm, ← this, Nat.add_comm]

set_option maxHeartbeats 4000000 in
theorem signs_any (A : Option Addr) (c : Nat) (d x : List Int) (w : World) (hd : Rs w w.heap.size A d) (dl : d.length = 40) (hx : Ix x) :
    Calls Tryd.prog 88 #[.slice A 40 c, .agg (agi x)] w (fun e w' => e = .returned (.int .i64 (sgnB d x 4)) ∧ Below w.heap.size w w') := by
  have HIX := hid (fun (k : Nat) (hk : k < 4) (w : World) => run_index_agi Tryd.underlying72 x hx.1 k hk w)
  have BA := hid ((Below.refl w.heap.size w).alloc (Nat.le_refl _) (.cells (agi x) 72))
  have I0 := hid (IB.new w 72 x)
  have HD := hid ((hd.below BA.out).more BA.out.size)
  have DL := hid dl
  have OK := hid hx.2
  have X4 := hid hx.1
  clear hd dl hx
  go_enter Tryd.func88, Tryd.ntmps88
  go_wp2_with (refine wpList_loadI rfl 72 (.tmp 3) rfl _ 72 x 4 _ rfl I0.out Tryd.underlying72 rfl size4i X4.out ?_)
  generalize w.alloc (.cells (agi x) 72) = V at I0 HD BA ⊢
  go_loop [5, 9] (fun sv iv => ∃ i : Nat, i ≤ 4 ∧ iv = .int .i64 i ∧ sv = .int .i64 ((sgnN d x i : Nat) : Int)) (fun _ iv => 4 - (intOf iv).toNat)
  case atStart => exact ⟨0, by omega, rfl, rfl⟩
  case round =>
    obtain ⟨i, hi, rfl, rfl⟩ := hrel
    by_cases hlt : i < 4
    · have hi4 : i = 0 ∨ i = 1 ∨ i = 2 ∨ i = 3 := by omega
      clear hlt hi
      rcases hi4 with rfl | rfl | rfl | rfl
      · have hI := HIX.out 0 (by omega)
        rw [show ((0 : Nat) : Int) = (0 : Int) from rfl] at hI
        have po := okIx_at OK.out 0
        obtain ⟨q, hq⟩ := Int.eq_ofNat_of_zero_le po.1
        have pa := plc_lt OK.out (t := 0) (by omega)
        have hpl : (0 : Int) + 4 * (q : Nat) = (plc x 0 : Nat) := by unfold plc; rw [hq]; push_cast; rfl
        rw [hq] at hI po
        try simp only [Int.zero_add] at hpl
        have SG := hid (show sgnN d x (0 + 1) = if 0 ≤ d.getD (plc x 0) 0 then sgnN d x 0 + 2 ^ 0 else sgnN d x 0 from rfl)
        have SL := sgnN_lt d x 0
        obtain ⟨a, ha⟩ : ∃ a, a = plc x 0 := ⟨_, rfl⟩
        rw [← ha] at hpl pa SG
        obtain ⟨ad, rfl, hadb, c0⟩ := HD.out.at_ (k := a) (by rw [DL.out]; exact pa)
        generalize d.getD a 0 = y at *
        generalize sgnN d x 0 = s at *
        have hor : bits BinOp.or IntKind.i64 (s : Nat) 1 = ((s + 1 : Nat) : Int) := by
          have := or64 (z := s) (p := 1) (or_low (i := 0) SL) (by have : s < 1 := SL; omega)
          exact this
        have q9 : (q : Int) ≤ 9 := po.2
        have a40 : (a : Int) < 40 := by omega
        have a0 : (0 : Int) ≤ a := by omega
        have HA := hid ha
        have HQ := hid hq
        clear po ha hq SL
        by_cases hy : 0 ≤ y
        · have hd : decide (0 ≤ y) = true := by simpa using hy
          have NS := hid (show sgnN d x (0 + 1) = s + 1 by rw [SG.out, if_pos hy])
          clear hy
          go_wp2
          go_round
          case rel => exact ⟨0 + 1, by omega, by go_num, by rw [NS.out] <;> rfl⟩
          case measure => simp [intOf] <;> omega
        · have hd : decide (0 ≤ y) = false := by simp; omega
          have NS := hid (show sgnN d x (0 + 1) = s by rw [SG.out, if_neg hy])
          clear hy
          go_wp2
          go_round
          case rel => exact ⟨0 + 1, by omega, by go_num, by rw [NS.out] <;> rfl⟩
          case measure => simp [intOf] <;> omega
      · have hI := HIX.out 1 (by omega)
        rw [show ((1 : Nat) : Int) = (1 : Int) from rfl] at hI
        have po := okIx_at OK.out 1
        obtain ⟨q, hq⟩ := Int.eq_ofNat_of_zero_le po.1
        have pa := plc_lt OK.out (t := 1) (by omega)
        have hpl : (1 : Int) + 4 * (q : Nat) = (plc x 1 : Nat) := by unfold plc; rw [hq]; push_cast; rfl
        rw [hq] at hI po
        try simp only [Int.zero_add] at hpl
        have SG := hid (show sgnN d x (1 + 1) = if 0 ≤ d.getD (plc x 1) 0 then sgnN d x 1 + 2 ^ 1 else sgnN d x 1 from rfl)
        have SL := sgnN_lt d x 1
        obtain ⟨a, ha⟩ : ∃ a, a = plc x 1 := ⟨_, rfl⟩
        rw [← ha] at hpl pa SG
        obtain ⟨ad, rfl, hadb, c0⟩ := HD.out.at_ (k := a) (by rw [DL.out]; exact pa)
        generalize d.getD a 0 = y at *
        generalize sgnN d x 1 = s at *
        have hor : bits BinOp.or IntKind.i64 (s : Nat) 2 = ((s + 2 : Nat) : Int) := by
          have := or64 (z := s) (p := 2) (or_low (i := 1) SL) (by have : s < 2 := SL; omega)
          exact this
        have q9 : (q : Int) ≤ 9 := po.2
        have a40 : (a : Int) < 40 := by omega
        have a0 : (0 : Int) ≤ a := by omega
        have HA := hid ha
        have HQ := hid hq
        clear po ha hq SL
        by_cases hy : 0 ≤ y
        · have hd : decide (0 ≤ y) = true := by simpa using hy
          have NS := hid (show sgnN d x (1 + 1) = s + 2 by rw [SG.out, if_pos hy])
          clear hy
          go_wp2
          go_round
          case rel => exact ⟨1 + 1, by omega, by go_num, by rw [NS.out] <;> rfl⟩
          case measure => simp [intOf] <;> omega
        · have hd : decide (0 ≤ y) = false := by simp; omega
          have NS := hid (show sgnN d x (1 + 1) = s by rw [SG.out, if_neg hy])
          clear hy
          go_wp2
          go_round
          case rel => exact ⟨1 + 1, by omega, by go_num, by rw [NS.out] <;> rfl⟩
          case measure => simp [intOf] <;> omega
      · have hI := HIX.out 2 (by omega)
        rw [show ((2 : Nat) : Int) = (2 : Int) from rfl] at hI
        have po := okIx_at OK.out 2
        obtain ⟨q, hq⟩ := Int.eq_ofNat_of_zero_le po.1
        have pa := plc_lt OK.out (t := 2) (by omega)
        have hpl : (2 : Int) + 4 * (q : Nat) = (plc x 2 : Nat) := by unfold plc; rw [hq]; push_cast; rfl
        rw [hq] at hI po
        try simp only [Int.zero_add] at hpl
        have SG := hid (show sgnN d x (2 + 1) = if 0 ≤ d.getD (plc x 2) 0 then sgnN d x 2 + 2 ^ 2 else sgnN d x 2 from rfl)
        have SL := sgnN_lt d x 2
        obtain ⟨a, ha⟩ : ∃ a, a = plc x 2 := ⟨_, rfl⟩
        rw [← ha] at hpl pa SG
        obtain ⟨ad, rfl, hadb, c0⟩ := HD.out.at_ (k := a) (by rw [DL.out]; exact pa)
        generalize d.getD a 0 = y at *
        generalize sgnN d x 2 = s at *
        have hor : bits BinOp.or IntKind.i64 (s : Nat) 4 = ((s + 4 : Nat) : Int) := by
          have := or64 (z := s) (p := 4) (or_low (i := 2) SL) (by have : s < 4 := SL; omega)
          exact this
        have q9 : (q : Int) ≤ 9 := po.2
        have a40 : (a : Int) < 40 := by omega
        have a0 : (0 : Int) ≤ a := by omega
        have HA := hid ha
        have HQ := hid hq
        clear po ha hq SL
        by_cases hy : 0 ≤ y
        · have hd : decide (0 ≤ y) = true := by simpa using hy
          have NS := hid (show sgnN d x (2 + 1) = s + 4 by rw [SG.out, if_pos hy])
          clear hy
          go_wp2
          go_round
          case rel => exact ⟨2 + 1, by omega, by go_num, by rw [NS.out] <;> rfl⟩
          case measure => simp [intOf] <;> omega
        · have hd : decide (0 ≤ y) = false := by simp; omega
          have NS := hid (show sgnN d x (2 + 1) = s by rw [SG.out, if_neg hy])
          clear hy
          go_wp2
          go_round
          case rel => exact ⟨2 + 1, by omega, by go_num, by rw [NS.out] <;> rfl⟩
          case measure => simp [intOf] <;> omega
      · have hI := HIX.out 3 (by omega)
        rw [show ((3 : Nat) : Int) = (3 : Int) from rfl] at hI
        have po := okIx_at OK.out 3
        obtain ⟨q, hq⟩ := Int.eq_ofNat_of_zero_le po.1
        have pa := plc_lt OK.out (t := 3) (by omega)
        have hpl : (3 : Int) + 4 * (q : Nat) = (plc x 3 : Nat) := by unfold plc; rw [hq]; push_cast; rfl
        rw [hq] at hI po
        try simp only [Int.zero_add] at hpl
        have SG := hid (show sgnN d x (3 + 1) = if 0 ≤ d.getD (plc x 3) 0 then sgnN d x 3 + 2 ^ 3 else sgnN d x 3 from rfl)
        have SL := sgnN_lt d x 3
        obtain ⟨a, ha⟩ : ∃ a, a = plc x 3 := ⟨_, rfl⟩
        rw [← ha] at hpl pa SG
        obtain ⟨ad, rfl, hadb, c0⟩ := HD.out.at_ (k := a) (by rw [DL.out]; exact pa)
        generalize d.getD a 0 = y at *
        generalize sgnN d x 3 = s at *
        have hor : bits BinOp.or IntKind.i64 (s : Nat) 8 = ((s + 8 : Nat) : Int) := by
          have := or64 (z := s) (p := 8) (or_low (i := 3) SL) (by have : s < 8 := SL; omega)
          exact this
        have q9 : (q : Int) ≤ 9 := po.2
        have a40 : (a : Int) < 40 := by omega
        have a0 : (0 : Int) ≤ a := by omega
        have HA := hid ha
        have HQ := hid hq
        clear po ha hq SL
        by_cases hy : 0 ≤ y
        · have hd : decide (0 ≤ y) = true := by simpa using hy
          have NS := hid (show sgnN d x (3 + 1) = s + 8 by rw [SG.out, if_pos hy])
          clear hy
          go_wp2
          go_round
          case rel => exact ⟨3 + 1, by omega, by go_num, by rw [NS.out] <;> rfl⟩
          case measure => simp [intOf] <;> omega
        · have hd : decide (0 ≤ y) = false := by simp; omega
          have NS := hid (show sgnN d x (3 + 1) = s by rw [SG.out, if_neg hy])
          clear hy
          go_wp2
          go_round
          case rel => exact ⟨3 + 1, by omega, by go_num, by rw [NS.out] <;> rfl⟩
          case measure => simp [intOf] <;> omega
    · obtain rfl : i = 4 := by omega
      go_wp2
      go_ret
      exact ⟨rfl, BA.out⟩
end Go.Proofs.YthoiikkjjaldnaaDoor
