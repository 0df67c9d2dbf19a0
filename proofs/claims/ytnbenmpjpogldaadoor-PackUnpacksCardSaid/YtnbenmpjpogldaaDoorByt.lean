/- Slices of bytes; a call of a desk as an argument. -/
import Derived.Test.YtnbenmpjpogldaaDoorPush
import Derived.Test.YtnbenmpjpogldaaDoorPushN
namespace Go.Proofs.YtnbenmpjpogldaaDoor
set_option linter.unusedVariables false
set_option linter.unusedSimpArgs false
set_option maxRecDepth 100000
open Go.RowKit

def bts (xs : List Int) : List Value := xs.map (Value.int .u8)
theorem bts_len (xs : List Int) : (bts xs).length = xs.length := by simp [bts]
theorem bts_get (xs : List Int) (k : Nat) (h : k < xs.length) : (bts xs)[k]? = some (.int .u8 (xs.getD k 0)) := by simp [bts, h]
theorem bts_one (xs : List Int) : ∀ u ∈ bts xs, u.oneCell' = true := ints_oneCell .u8 xs
theorem bts_append (xs ys : List Int) : bts xs ++ bts ys = bts (xs ++ ys) := by simp [bts]
/-- A slice of bytes that reads. -/
def Rb (w : World) (B : Nat) (A : Option Addr) (xs : List Int) : Prop := Reads w B 1 A xs.length (bts xs)
/-- A row of bytes of a call's own. -/
def OwnB (w : World) (base : Nat) (A : Option Addr) (c : Nat) (xs : List Int) : Prop := w.ownsRow base 5 1 (.slice A xs.length c) xs.length (bts xs)
theorem infoB : (Tryd.prog.info? 5).map (fun i => (i.zero, i.size, i.bytes)) = some (some (.int .u8 0), 1, 1) := by kernel_rfl
section
variable {w w' : World} {B B' : Nat} {A : Option Addr} {xs : List Int}
theorem Rb.below (h : Rb w B A xs) (hb : Below B w w') : Rb w' B A xs := Reads.below h hb
theorem Rb.more (h : Rb w B A xs) (hB : B ≤ B') : Rb w B' A xs := Reads.more h hB
theorem Rb.at_ {k : Nat} (h : Rb w B A xs) (hk : k < xs.length) : ∃ ad, A = some ad ∧ ad.block < B ∧ w.cell? (ad.add k) = some (.int .u8 (xs.getD k 0)) := by
  obtain ⟨ad, e, hb, hc⟩ := h.2 (by omega)
  exact ⟨ad, e, hb, hc k _ (bts_get xs k hk)⟩
theorem Rb.ad (h : Rb w B A xs) (hk : 0 < xs.length) : ∃ ad, A = some ad ∧ ad.block < B ∧ ∀ k, k < xs.length → w.cell? (ad.add k) = some (.int .u8 (xs.getD k 0)) := by
  obtain ⟨ad, e, hb, hc⟩ := h.2 hk
  exact ⟨ad, e, hb, fun k hk => hc k _ (bts_get xs k hk)⟩
theorem Rb.nil : Rb w B A [] := Reads.none_
theorem OwnB.nil {base : Nat} : OwnB w base none 0 [] := World.ownsRow_nil w base _ _
theorem OwnB.reads {base c : Nat} (h : OwnB w base A c xs) : Rb w w.heap.size A xs := Reads.of_own h
theorem OwnB.below {base c : Nat} (h : OwnB w base A c xs) (hb : Below w.heap.size w w') : OwnB w' base A c xs :=
  World.ownsRow.kept h (row := none) ⟨hb.os, hb.tape, hb.output, hb.size, fun k hk _ => hb.block k hk⟩ (by cases A <;> simp [Value.ownBlock])
theorem OwnB.cap {base c : Nat} (h : OwnB w base A c xs) : xs.length ≤ c ∧ c ≤ 9223372036854775807 := by
  rcases h.2 with ⟨hv, hn⟩ | ⟨g, cap, cur, hv, hb, hg, h1, h2, _⟩
  · injection hv with _ _ hc
    omega
  · injection hv with _ _ hc
    unfold maxLen at h2
    omega
theorem OwnB.lt {base c : Nat} (h : OwnB w base A c xs) : ∀ a, A = some a → base ≤ a.block ∧ a.block < w.heap.size := fun a ha => by
  subst ha
  exact World.ownsRow.lt h a.block rfl
theorem OwnB.ne_ {base c g : Nat} (h : OwnB w base A c xs) (hg : g < base) : ∀ ad, A = some ad → ad.block ≠ g := fun ad e => by
  have := (h.lt ad e).1
  omega
end
theorem own_formB {w : World} {base n : Nat} {v : Value} {vs : List Value} {ys : List Int} (h : w.ownsRow base 5 1 v n vs) (hv : vs = bts ys) : ∃ A c, v = .slice A ys.length c ∧ OwnB w base A c ys := by
  subst hv
  have hl : ys.length = n := by have := h.1; simpa [bts] using this
  subst hl
  rcases h.2 with ⟨hv, hn⟩ | ⟨g, cap, cur, hv, rest⟩
  · subst hv
    refine ⟨none, 0, by rw [hn], ?_⟩
    unfold OwnB
    rw [hn] at h ⊢
    exact h
  · subst hv
    exact ⟨_, _, rfl, h⟩
/-- append of bytes that read. -/
theorem wpList_catB {ops : Array Oper} {rest : List Oper} {o : Oper} {a : Act} {w : World} {Q : Exit → Act → World → Prop} (hgd : o.guard = none) (s x : Operand)
    (ho : o.op = .call { callee := .builtin .append, args := #[s, x], argTypes := #[31, 31] })
    (base : Nat) (A : Option Addr) (c n : Nat) (xs : List Int) (hs : a.eval s = .slice A n c) (hn : xs.length = n) (hown : OwnB w base A c xs)
    (B : Nat) (A2 : Option Addr) (c2 m : Nat) (ys : List Int) (hx : a.eval x = .slice A2 m c2) (hm : ys.length = m) (hr : Rb w B A2 ys) (hlen : n + m ≤ 140737488355328) (hbase : base ≤ w.heap.size)
    (h : ∀ A' c' w', OwnB w' base A' c' (xs ++ ys) → w.grownBy w' (A.map (·.block)) → wpList Tryd.prog ops Q rest (a.put o.dst (.slice A' (n + m) c')) w') : wpList Tryd.prog ops Q (o :: rest) a w := by
  subst hn
  subst hm
  obtain ⟨i0, hi, hz0, hz1, hz2⟩ := info_parts infoB
  refine wpList_plain hgd fun K hK => ?_
  obtain ⟨v', w', hrun, h2, h3, h4⟩ := run_append_any (P := Tryd.prog) w base 31 o.type 5 i0 (.int .u8 0) 1 1 Tryd.underlying31 hi hz0 hz1 hz2 rfl (by omega) _ _ _ hown B A2 ys.length c2 (bts ys) hr (bts_one ys) (by unfold maxLen; omega) (by omega) hbase
  obtain ⟨A', c', rfl, hO⟩ := own_formB h2 (bts_append xs ys)
  have hl : (xs ++ ys).length = xs.length + ys.length := by simp
  unfold Oper.wp execOp
  simp only [ho, resolve, invoke, builtin, Sem.run_bind, Sem.run_pure, Result.andThen_ok, List.map_toArray, List.map_cons, List.map_nil, hs, hx, hrun]
  refine hK _ _ ?_
  rw [hl]
  exact h A' c' w' hO (by cases A <;> exact h3)

/-! What an argument of slices holds. -/
section
open Go.ChangeShapes
variable {H : Type} {enc : TypeId × Value → H} {P : Program} {w : World}
/-- A slice of numbers read at any place. -/
theorem slice_reads {t e : TypeId} {k : IntKind} {A : Option Addr} {n c fuel : Nat} {d : DataW H} {ps : List MemPlace} (ht : P.underlying t = some (.slice e)) (he : P.underlying e = some (.int k)) (hc : P.cellsOf e = 1)
    (h : DataW.trod enc P w 0 (fun _ => true) true fuel t [.slice A n c] = some (d, ps)) (hd : ∀ x ∈ d.weights P t, x ≤ reachBytes) :
    ∃ xs : List Int, xs.length = n ∧ n ≤ c ∧ c * P.bytesOf e ≤ 140737488351232 ∧ Reads w w.heap.size 1 A n (xs.map (Value.int k)) ∧ ∀ x ∈ xs, k.has x := by
  rcases open_ints ht he hc h with ⟨h1, _⟩ | ⟨a, len, cap, zs, h1, _, hl, hm, hlen, hx, hcell, hwf⟩
  · simp only [List.cons.injEq, Value.slice.injEq, and_true] at h1
    obtain ⟨rfl, rfl, rfl⟩ := h1
    exact ⟨[], rfl, by omega, by omega, Reads.none_, by intro x hx; simp at hx⟩
  · simp only [List.cons.injEq, Value.slice.injEq, and_true] at h1
    obtain ⟨rfl, rfl, rfl⟩ := h1
    simp only [if_true] at hlen
    simp only [Prod.mk.injEq] at hx
    obtain ⟨rfl, _⟩ := hx
    have htl : (zs.take n).length = n := by rw [List.length_take]; omega
    have hwt := hd (((lits k (zs.take n)).length + (lits k (zs.drop n) : List (DataW H)).length) * P.bytesOf e) (by simp only [DataW.weights, ht]; exact List.mem_cons_self ..)
    simp only [lits, List.length_map, List.length_take, List.length_drop, reachBytes] at hwt
    have hcc : min n zs.length + (zs.length - n) = c := by omega
    rw [hcc] at hwt
    refine ⟨zs.take n, htl, by omega, hwt, ⟨by rw [List.length_map, htl, Nat.mul_one], fun hn => ⟨a, rfl, ?_, ?_⟩⟩, ?_⟩
    · have := World.block_lt_of_cell? w _ (hcell 0 (by omega))
      rwa [block_of_add] at this
    · intro j u hu
      have hj : j < n := by
        have := (List.getElem?_eq_some_iff.1 hu).1
        rwa [List.length_map, htl] at this
      rw [hcell j (by omega), ← hu, List.getElem?_map, List.getElem?_take, if_pos hj, List.getElem?_eq_getElem (by omega)]
      simp [List.getD_eq_getElem?_getD, (show j < zs.length by omega)]
    · intro x hx
      have := hwf x (List.mem_of_mem_take hx)
      simpa [Lit.wf, IntKind.has] using this
end
end Go.Proofs.YtnbenmpjpogldaaDoor
