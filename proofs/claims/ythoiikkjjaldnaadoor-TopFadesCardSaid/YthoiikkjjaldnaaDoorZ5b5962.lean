/- Texts that the law rests on, laid together: BigDivMod, NoiseW, NoiseR, PastR, PkM. -/
import Derived.Test.YthoiikkjjaldnaaDoorZ753720
import Derived.Test.YthoiikkjjaldnaaDoorZ104825
import Derived.Test.YthoiikkjjaldnaaDoorZe90ea5
import Derived.Test.YthoiikkjjaldnaaDoorZ7f3e4a
import Derived.Test.YthoiikkjjaldnaaDoorZ10bfcc
import Derived.Test.YthoiikkjjaldnaaDoorZ6b4648
import Derived.Test.YthoiikkjjaldnaaDoorZaa54cf
/- The walks of DivMod, Div by a number above 0. -/
namespace Go.Proofs.YthoiikkjjaldnaaDoor
set_option linter.unusedVariables false
set_option linter.unusedSimpArgs false
set_option maxRecDepth 100000
open Go.RowKit

/-- Of what was there only blocks b and m may have turned. -/
structure Two (b m : Nat) (w w' : World) : Prop where
  os : w'.os = w.os
  tape : w'.tape = w.tape
  output : w'.output = w.output
  size : w.heap.size ≤ w'.heap.size
  block : ∀ k, k < w.heap.size → k ≠ b → k ≠ m → w'.heap[k]? = w.heap[k]?

theorem Two.trans {b m : Nat} {u v w : World} (h : Two b m u v) (k : Two b m v w) : Two b m u w :=
  ⟨k.os.trans h.os, k.tape.trans h.tape, k.output.trans h.output, Nat.le_trans h.size k.size, fun i hi hb hm => (k.block i (Nat.lt_of_lt_of_le hi h.size) hb hm).trans (h.block i hi hb hm)⟩
theorem Two.left {b m : Nat} {u v : World} (h : u.grownBy v (some b)) : Two b m u v := ⟨h.os, h.tape, h.output, h.size, fun k hk hb _ => h.block k hk (by simpa using hb)⟩
theorem Two.right {b m : Nat} {u v : World} (h : u.grownBy v (some m)) : Two b m u v := ⟨h.os, h.tape, h.output, h.size, fun k hk _ hm => h.block k hk (by simpa using hm)⟩
theorem Two.below {b m : Nat} {u v : World} (h : Below u.heap.size u v) : Two b m u v := ⟨h.os, h.tape, h.output, h.size, fun k hk _ _ => h.block k hk⟩

end Go.Proofs.YthoiikkjjaldnaaDoor

/- The walks of Noise, the program's and the reference's, and of the law GainNoises. -/
namespace Go.Proofs.YthoiikkjjaldnaaDoor
set_option linter.unusedVariables false
set_option linter.unusedSimpArgs false
set_option maxRecDepth 100000
open Go.RowKit

theorem and16 (x : Int) : bits BinOp.and IntKind.i64 x 65535 = x % 65536 := by
  have h : (BitVec.ofInt 64 x &&& BitVec.ofInt 64 65535).toNat = (x % 65536).toNat := by
    rw [BitVec.toNat_and, BitVec.toNat_ofInt, show (BitVec.ofInt 64 65535).toNat = 2 ^ 16 - 1 from by decide, Nat.and_two_pow_sub_one_eq_mod]
    omega
  show IntKind.i64.wrap ((BitVec.ofInt 64 x &&& BitVec.ofInt 64 65535).toNat : Int) = _
  rw [h]
  simp only [IntKind.wrap, IntKind.signed, IntKind.bits]
  simp
  omega

def nzS (s : Int) : Int := (s * 31821 + 13849) % 65536
def nzZ (z : Int) : Int := min (max z 0) 32767
def nzX (s z : Int) : Int := (nzS s - 32768) * nzZ z / 32768
theorem nzS_range (s : Int) : 0 ≤ nzS s ∧ nzS s ≤ 65535 := by unfold nzS; omega
theorem nzZ_range (z : Int) : 0 ≤ nzZ z ∧ nzZ z ≤ 32767 := by unfold nzZ; omega
theorem nz_prod {a b : Int} (h1 : 0 ≤ a) (h2 : a ≤ 65535) (h3 : 0 ≤ b) (h4 : b ≤ 32767) : -2147483648 ≤ (a - 32768) * b ∧ (a - 32768) * b ≤ 2147483648 := by
  have h5 : (a - 32768) * b ≤ 32767 * b := Int.mul_le_mul_of_nonneg_right (by omega) h3
  have h6 : -32768 * b ≤ (a - 32768) * b := Int.mul_le_mul_of_nonneg_right (by omega) h3
  omega
theorem nz_wrap (s : Int) : bits BinOp.and IntKind.i64 (wrap64 (wrap64 (s * 31821) + 13849)) 65535 = nzS s := by
  rw [and16]
  unfold nzS wrap64
  omega
set_option maxHeartbeats 1000000 in
theorem noise_any (s z : Int) (w : World) : Calls Tryd.prog 91 #[.int .i64 s, .int .i64 z] w fun e w' => e = .returned (.tuple #[.int .i64 (nzS s), .int .i64 (nzX s z)]) ∧ w = w' := by
  have hw := nz_wrap s
  have hr := nzS_range s
  have HX := hid (show nzX s z = (nzS s - 32768) * nzZ z / 32768 from rfl)
  generalize nzS s = y at *
  obtain ⟨h1, h2⟩ := hr
  rcases (show (z < 0 ∧ nzZ z = 0) ∨ (0 ≤ z ∧ z ≤ 32767 ∧ nzZ z = z) ∨ (32767 < z ∧ nzZ z = 32767) by unfold nzZ; omega) with ⟨hz, e0⟩ | ⟨hz0, hz1, e0⟩ | ⟨hz, e0⟩
  all_goals
    rw [e0] at HX
    clear e0
  · go_enter Tryd.func91, Tryd.ntmps91
    go_wp2
    go_ret2
    exact ⟨by rw [HX.out]; simp [hw], rfl⟩
  · obtain ⟨m1, m2⟩ := nz_prod h1 h2 hz0 hz1
    go_enter Tryd.func91, Tryd.ntmps91
    go_wp2
    go_ret2
    exact ⟨by rw [HX.out]; simp [hw], rfl⟩
  · go_enter Tryd.func91, Tryd.ntmps91
    go_wp2
    go_ret2
    exact ⟨by rw [HX.out]; simp [hw], rfl⟩
end Go.Proofs.YthoiikkjjaldnaaDoor

/- The walk of the reference's Noise, and of the law GainNoises. -/
namespace Go.Proofs.YthoiikkjjaldnaaDoor
set_option linter.unusedVariables false
set_option linter.unusedSimpArgs false
set_option maxRecDepth 100000
open Go.RowKit

end Go.Proofs.YthoiikkjjaldnaaDoor

/- The walk of the reference's Past, and of the law PitchPasts. -/
namespace Go.Proofs.YthoiikkjjaldnaaDoor
set_option linter.unusedVariables false
set_option linter.unusedSimpArgs false
set_option maxRecDepth 100000
open Go.RowKit

end Go.Proofs.YthoiikkjjaldnaaDoor

/- A packet's numbers: how many bits each has, how much it may be; the table of the program's fields. -/
namespace Go.Proofs.YthoiikkjjaldnaaDoor
set_option linter.unusedVariables false
set_option linter.unusedSimpArgs false
set_option maxRecDepth 100000
open Go.RowKit

def pkB : List Int := [2, 6, 6, 5, 5, 4, 4, 3, 3, 6, 3, 4, 4, 4, 4, 4, 5, 6, 3, 4, 4, 4, 4, 4, 5]
def pkT : List Int := [2, 63, 63, 31, 31, 15, 15, 7, 7, 59, 7, 9, 9, 9, 9, 15, 31, 59, 7, 9, 9, 9, 9, 15, 31]
/-- The field i of the packet in block g. -/
def fld (g i : Nat) : List Value := [.pointer (some ⟨g, i, none⟩), .int .i64 (pkB.getD i 0), .int .i64 (pkT.getD i 0)]
def fcells (g n : Nat) : List Value := (List.range n).flatMap (fld g)
theorem fcells_snoc (g n : Nat) : fcells g n ++ fld g n = fcells g (n + 1) := by
  unfold fcells
  rw [List.range_succ, List.flatMap_append]
  simp
theorem fcells_len (g n : Nat) : (fcells g n).length = n * 3 := by
  induction n with
  | zero => rfl
  | succ n ih => rw [← fcells_snoc, List.length_append, ih]; simp [fld]; omega
theorem fcells_get (g : Nat) {n i j : Nat} (hi : i < n) (hj : j < 3) : (fcells g n)[3 * i + j]? = (fld g i)[j]? := by
  induction n with
  | zero => omega
  | succ n ih =>
    rw [← fcells_snoc]
    by_cases h : i < n
    · rw [List.getElem?_append_left (by rw [fcells_len]; omega), ih h]
    · obtain rfl : i = n := by omega
      rw [List.getElem?_append_right (by rw [fcells_len]; omega), fcells_len]
      congr 1
      omega
theorem fld_one (g i : Nat) : ∀ u ∈ fld g i, u.oneCell' = true := by
  intro u hu
  unfold fld at hu
  simp only [List.mem_cons, List.not_mem_nil, or_false] at hu
  rcases hu with rfl | rfl | rfl <;> rfl
theorem fld_lit (g : Nat) {i a : Nat} {b t : Int} (ha : a = i) (hb : pkB.getD i 0 = b) (ht : pkT.getD i 0 = t) : [Value.pointer (some ⟨g, a, none⟩), .int .i64 b, .int .i64 t] = fld g i := by
  unfold fld
  rw [hb, ht, ha]
/-- Some more fields. -/
theorem fcells_one (g n : Nat) {l : List Value} (h : l = fld g n) : fcells g n ++ l = fcells g (n + 1) := by rw [h]; exact fcells_snoc g n
theorem fcells_two (g n : Nat) {l : List Value} (h : l = fld g n ++ fld g (n + 1)) : fcells g n ++ l = fcells g (n + 2) := by rw [h, ← List.append_assoc, fcells_snoc, fcells_snoc]
theorem fcells_cell (g n : Nat) (u : Value) (hu : u ∈ fcells g n) : u.oneCell' = true := by
  unfold fcells at hu
  obtain ⟨i, _, h⟩ := List.mem_flatMap.1 hu
  exact fld_one g i u h
/-- A slice of fields that a call made. -/
def OwnF (w : World) (base : Nat) (A : Option Addr) (c g n : Nat) : Prop := w.ownsRow base 135 3 (.slice A n c) n (fcells g n)
theorem infoF : (Tryd.prog.info? 135).map (fun i => (i.zero, i.size, i.bytes)) = some (some (.agg #[.pointer none, .int .i64 0, .int .i64 0]), 3, 24) := by kernel_rfl
section
variable {w w' : World} {base c g n : Nat} {A : Option Addr}
theorem OwnF.lt (h : OwnF w base A c g n) : ∀ a, A = some a → base ≤ a.block ∧ a.block < w.heap.size := fun a ha => by
  subst ha
  exact World.ownsRow.lt h a.block rfl
theorem OwnF.kept {row : Option Nat} (h : OwnF w base A c g n) (hg : w.grownBy w' row) (hne : ∀ a, A = some a → some a.block ≠ row) : OwnF w' base A c g n :=
  World.ownsRow.kept h hg (by
    cases A with
    | none => exact .inl rfl
    | some a => exact .inr (hne a rfl))
theorem OwnF.below (h : OwnF w base A c g n) (hb : Below w.heap.size w w') : OwnF w' base A c g n :=
  World.ownsRow.kept h (row := none) ⟨hb.os, hb.tape, hb.output, hb.size, fun k hk _ => hb.block k hk⟩ (by cases A <;> simp [Value.ownBlock])
theorem OwnF.alloc (h : OwnF w base A c g n) (o : Obj) : OwnF (w.alloc o) base A c g n := World.ownsRow.alloc h o
theorem OwnF.drew (h : OwnF w base A c g n) : OwnF w.drew base A c g n := h
theorem OwnF.cap (h : OwnF w base A c g n) : n ≤ c := by
  rcases h.2 with ⟨hv, hn⟩ | ⟨b, cap, cur, hv, hb, hg, h1, h2, _⟩
  · omega
  · injection hv with _ _ hc
    omega
/-- The cells of the fields. -/
theorem OwnF.at_ (h : OwnF w base A c g n) (hn : 0 < n) : ∃ b, A = some ⟨b, 0, none⟩ ∧ b < w.heap.size ∧ base ≤ b ∧ ∀ i, i < n → w.cell? ⟨b, 3 * i, none⟩ = some (.pointer (some ⟨g, i, none⟩)) ∧ w.cell? ⟨b, 3 * i + 1, none⟩ = some (.int .i64 (pkB.getD i 0)) ∧ w.cell? ⟨b, 3 * i + 2, none⟩ = some (.int .i64 (pkT.getD i 0)) := by
  have hr := Reads.of_own h
  have hlt := h.lt
  rcases h.2 with ⟨_, h0⟩ | ⟨b, cap, cur, hv, _⟩
  · omega
  · injection hv with hA _ _
    subst hA
    obtain ⟨ad, e, hb, hc⟩ := hr.2 hn
    injection e with e
    subst e
    refine ⟨b, rfl, hb, (hlt _ rfl).1, fun i hi => ?_⟩
    have f := fun j (hj : j < 3) v (hv : (fld g i)[j]? = some v) => hc (3 * i + j) v (by rw [fcells_get g hi hj]; exact hv)
    have f0 := f 0 (by omega) _ rfl
    have f1 := f 1 (by omega) _ rfl
    have f2 := f 2 (by omega) _ rfl
    rw [add_zero'] at f0 f1 f2
    exact ⟨f0, f1, f2⟩
end
/-- append of some fields. -/
theorem wpList_pushF {ops : Array Oper} {rest : List Oper} {o : Oper} {a : Act} {w : World} {Q : Exit → Act → World → Prop} (hgd : o.guard = none) (s x : Operand)
    (ho : o.op = .call { callee := .builtin .append, args := #[s, x], argTypes := #[130, 130] })
    (base : Nat) (A : Option Addr) (c g n m q : Nat) (hq : n + m = q) (hs : a.eval s = .slice A n c) (hown : OwnF w base A c g n)
    (h : Nat) (cs : Array Value) (hx : a.eval x = .slice (some ⟨h, 0, none⟩) m m) (hy : Blk w h 135 cs) (hcs : fcells g n ++ cs.toList = fcells g (n + m)) (hlen : n + m ≤ 1000000) (hbase : base ≤ w.heap.size)
    (k : ∀ A' c' w', OwnF w' base A' c' g q → w.grownBy w' (A.map (·.block)) → wpList Tryd.prog ops Q rest (a.put o.dst (.slice A' q c')) w') : wpList Tryd.prog ops Q (o :: rest) a w := by
  subst hq
  obtain ⟨i0, hi, hz0, hz1, hz2⟩ := info_parts infoF
  have hcl : cs.toList.length = m * 3 := by
    have h1 := congrArg List.length hcs
    rw [List.length_append, fcells_len, fcells_len] at h1
    omega
  refine wpList_plain hgd fun K hK => ?_
  obtain ⟨v', w', hrun, h2, h3, h4'⟩ := run_append_any (P := Tryd.prog) w base 130 o.type 135 i0 _ 3 24 Tryd.underlying130 hi hz0 hz1 hz2 rfl (by omega) _ _ _ hown (h + 1) (some ⟨h, 0, none⟩) m m cs.toList
    ⟨hcl, fun _ => ⟨_, rfl, by show h < h + 1; omega, fun j u hj => by rw [add_zero', Blk.cell hy j]; simpa using hj⟩⟩ (fun u hu => fcells_cell g (n + m) u (by rw [← hcs]; exact List.mem_append_right _ hu)) (by unfold maxLen; omega) (by omega) hbase
  rw [hcs] at h2
  obtain ⟨A', c', hv'⟩ : ∃ A' c', v' = .slice A' (n + m) c' := by
    rcases h2.2 with ⟨hv, _⟩ | ⟨g', cap, cur, hv, _⟩
    · rename_i h0
      exact ⟨none, 0, by rw [hv, h0]⟩
    · exact ⟨_, _, hv⟩
  subst hv'
  unfold Oper.wp execOp
  simp only [ho, resolve, invoke, builtin, Sem.run_bind, Sem.run_pure, Result.andThen_ok, List.map_toArray, List.map_cons, List.map_nil, hs, hx, hrun]
  exact hK _ _ (k A' c' w' h2 (by cases A <;> exact h3))
/-- The same as one step of a region that draws. -/
theorem step_pushF {ops : Array Oper} {o : Oper} {a : Act} {w : World} {K : Act → World → Prop} {Q : Exit → Act → World → Prop} {E : Prop} (hgd : o.guard = none) (s x : Operand)
    (ho : o.op = .call { callee := .builtin .append, args := #[s, x], argTypes := #[130, 130] })
    (base : Nat) (A : Option Addr) (c g n m q : Nat) (hq : n + m = q) (hs : a.eval s = .slice A n c) (hown : OwnF w base A c g n)
    (h : Nat) (cs : Array Value) (hx : a.eval x = .slice (some ⟨h, 0, none⟩) m m) (hy : Blk w h 135 cs) (hcs : fcells g n ++ cs.toList = fcells g (n + m)) (hlen : n + m ≤ 1000000) (hbase : base ≤ w.heap.size)
    (k : ∀ A' c' w', OwnF w' base A' c' g q → w.grownBy w' (A.map (·.block)) → K (a.put o.dst (.slice A' q c')) w') : if Region.wanted o (yielded ops a.tmps) = true then Oper.wp Tryd.prog o a w K Q else E := by
  have hw : Region.wanted o (yielded ops a.tmps) = true := by simp [Region.wanted, hgd]
  rw [if_pos hw]
  subst hq
  obtain ⟨i0, hi, hz0, hz1, hz2⟩ := info_parts infoF
  have hcl : cs.toList.length = m * 3 := by
    have h1 := congrArg List.length hcs
    rw [List.length_append, fcells_len, fcells_len] at h1
    omega
  obtain ⟨v', w', hrun, h2, h3, h4'⟩ := run_append_any (P := Tryd.prog) w base 130 o.type 135 i0 _ 3 24 Tryd.underlying130 hi hz0 hz1 hz2 rfl (by omega) _ _ _ hown (h + 1) (some ⟨h, 0, none⟩) m m cs.toList
    ⟨hcl, fun _ => ⟨_, rfl, by show h < h + 1; omega, fun j u hj => by rw [add_zero', Blk.cell hy j]; simpa using hj⟩⟩ (fun u hu => fcells_cell g (n + m) u (by rw [← hcs]; exact List.mem_append_right _ hu)) (by unfold maxLen; omega) (by omega) hbase
  rw [hcs] at h2
  obtain ⟨A', c', hv'⟩ : ∃ A' c', v' = .slice A' (n + m) c' := by
    rcases h2.2 with ⟨hv, _⟩ | ⟨g', cap, cur, hv, _⟩
    · rename_i h0
      exact ⟨none, 0, by rw [hv, h0]⟩
    · exact ⟨_, _, hv⟩
  subst hv'
  unfold Oper.wp execOp
  simp only [ho, resolve, invoke, builtin, Sem.run_bind, Sem.run_pure, Result.andThen_ok, List.map_toArray, List.map_cons, List.map_nil, hs, hx, hrun]
  exact (k A' c' w' h2 (by cases A <;> exact h3))
end Go.Proofs.YthoiikkjjaldnaaDoor
