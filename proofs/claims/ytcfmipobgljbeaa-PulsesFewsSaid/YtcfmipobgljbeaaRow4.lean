/- Slices of arrays of four numbers. -/
import Derived.Test.YtcfmipobgljbeaaPush
import Derived.Test.YtcfmipobgljbeaaRow
import Derived.Deep.MidRow
namespace Go.Proofs.Ytcfmipobgljbeaa
set_option linter.unusedVariables false
set_option linter.unusedSimpArgs false
set_option maxRecDepth 100000
open Go.RowKit

def cel4 (l : List (List Int)) : List Value := l.flatMap ints
theorem cel4_len {l : List (List Int)} (h : ∀ x ∈ l, x.length = 4) : (cel4 l).length = l.length * 4 := by
  induction l with
  | nil => rfl
  | cons x l ih =>
    have h1 := ih fun y hy => h y (List.mem_cons_of_mem _ hy)
    have h2 := h x (List.mem_cons_self ..)
    unfold cel4 at *
    rw [List.flatMap_cons, List.length_append, h1, ints_len, h2, List.length_cons]
    omega
theorem cel4_snoc (l : List (List Int)) (x : List Int) : cel4 l ++ ints x = cel4 (l ++ [x]) := by
  unfold cel4
  rw [List.flatMap_append]
  simp
theorem cel4_get : ∀ {l : List (List Int)} (_ : ∀ x ∈ l, x.length = 4) (i j : Nat) (_ : i < l.length) (_ : j < 4), (cel4 l)[4 * i + j]? = (ints (l.getD i []))[j]?
  | [], _, i, j, hi, _ => by simp at hi
  | x :: l, h, 0, j, _, hj => by
    have h2 := h x (List.mem_cons_self ..)
    unfold cel4
    rw [List.flatMap_cons, List.getElem?_append_left (by rw [ints_len]; omega)]
    simp
  | x :: l, h, i + 1, j, hi, hj => by
    have h2 := h x (List.mem_cons_self ..)
    have ih := cel4_get (l := l) (fun y hy => h y (List.mem_cons_of_mem _ hy)) i j (by simpa using hi) hj
    unfold cel4 at *
    rw [List.flatMap_cons, List.getElem?_append_right (by rw [ints_len]; omega), ints_len, h2, show 4 * (i + 1) + j - 4 = 4 * i + j by omega, ih]
    simp
/-- A slice of arrays that a call made. -/
def Own4 (w : World) (base : Nat) (A : Option Addr) (c : Nat) (l : List (List Int)) : Prop := w.ownsRow base 29 4 (.slice A l.length c) l.length (cel4 l) ∧ ∀ x ∈ l, x.length = 4
theorem infoI4 : (Try.prog.info? 29).map (fun i => (i.zero, i.size, i.bytes)) = some (some (.agg #[.int .i64 0, .int .i64 0, .int .i64 0, .int .i64 0]), 4, 32) := by kernel_rfl
section
variable {w w' : World} {base c : Nat} {A : Option Addr} {l : List (List Int)}
theorem Own4.nil : Own4 w base none 0 [] := ⟨World.ownsRow_nil w base _ _, fun x hx => by simp at hx⟩
theorem Own4.lt (h : Own4 w base A c l) : ∀ a, A = some a → base ≤ a.block ∧ a.block < w.heap.size := fun a ha => by
  subst ha
  exact World.ownsRow.lt h.1 a.block rfl
theorem Own4.below (h : Own4 w base A c l) (hb : Below w.heap.size w w') : Own4 w' base A c l :=
  ⟨World.ownsRow.kept h.1 (row := none) ⟨hb.os, hb.tape, hb.output, hb.size, fun k hk _ => hb.block k hk⟩ (by cases A <;> simp [Value.ownBlock]), h.2⟩
theorem Own4.kept {row : Option Nat} (h : Own4 w base A c l) (hg : w.grownBy w' row) (hne : ∀ a, A = some a → some a.block ≠ row) : Own4 w' base A c l :=
  ⟨World.ownsRow.kept h.1 hg (by
    cases A with
    | none => exact .inl rfl
    | some a => exact .inr (hne a rfl)), h.2⟩
theorem Own4.ne_ {g : Nat} (h : Own4 w base A c l) (hg : g < base) : ∀ ad, A = some ad → ad.block ≠ g := fun ad e => by
  have := (h.lt ad e).1
  omega
theorem Own4.setRow {g : Nat} (h : Own4 w base A c l) (hg : g < base) (cs : Array Value) : Own4 (w.setRow g cs) base A c l :=
  h.kept (row := some g) ⟨rfl, rfl, rfl, by simp [World.setRow], fun i _ hn => setRow_other w g i cs (by intro e; subst e; exact hn rfl)⟩ (fun ad e h2 => by
    injection h2 with h2
    exact h.ne_ hg ad e h2)
theorem Own4.setC {g : Nat} (h : Own4 w base A c l) (hg : g < base) (i : Nat) (v : Value) : Own4 (w.setCell ⟨g, i, none⟩ v) base A c l :=
  h.kept (row := some g) ⟨rfl, rfl, rfl, by simp [World.setCell], fun j _ hn => Below.heap_setCell _ _ _ j (by simpa using hn)⟩ (fun ad e h2 => by
    injection h2 with h2
    exact h.ne_ hg ad e h2)
/-- The arrays of a slice read. -/
def Rs4 (w : World) (g : Nat) (l : List (List Int)) : Prop := g < w.heap.size ∧ ∀ i, i < l.length → w.rangeAt g (4 * i) (ints (l.getD i []))
theorem Own4.reads (h : Own4 w base A c l) (hn : 0 < l.length) : ∃ g, A = some ⟨g, 0, none⟩ ∧ Rs4 w g l := by
  have hr := Reads.of_own h.1
  rcases h.1.2 with ⟨_, h0⟩ | ⟨g, cap, cur, hv, _⟩
  · omega
  · injection hv with hA _ _
    subst hA
    obtain ⟨ad, e, hb, hc⟩ := hr.2 hn
    injection e with e
    subst e
    refine ⟨g, rfl, hb, fun i hi j v hv => ?_⟩
    have hj : j < 4 := by
      have := (List.getElem?_eq_some_iff.1 hv).1
      rw [ints_len] at this
      have h4 : (l.getD i []).length = 4 := by
        rw [List.getD_eq_getElem?_getD, List.getElem?_eq_getElem hi]
        exact h.2 _ (List.getElem_mem hi)
      omega
    have := hc (4 * i + j) v (by rw [cel4_get h.2 i j hi hj]; exact hv)
    rwa [add_zero'] at this
theorem Rs4.below {g : Nat} (h : Rs4 w g l) (hb : Below w.heap.size w w') : Rs4 w' g l :=
  ⟨Nat.lt_of_lt_of_le h.1 hb.size, fun i hi j v hv => (hb.cell (p := ⟨g, 4 * i + j, none⟩) h.1).trans (h.2 i hi j v hv)⟩
theorem Rs4.rowFar {g b : Nat} (h : Rs4 w g l) (hne : g ≠ b) (cs : Array Value) : Rs4 (w.setRow b cs) g l :=
  ⟨by simpa [World.setRow] using h.1, fun i hi j v hv => by
    have := h.2 i hi j v hv
    unfold World.cell? at *
    rw [setRow_other w b g cs hne]
    exact this⟩
end
/-- append of one array. -/
theorem wpList_push4 {ops : Array Oper} {rest : List Oper} {o : Oper} {a : Act} {w : World} {Q : Exit → Act → World → Prop} (hgd : o.guard = none) (s x : Operand)
    (ho : o.op = .call { callee := .builtin .append, args := #[s, x], argTypes := #[79, 79] })
    (base : Nat) (A : Option Addr) (c n : Nat) (l : List (List Int)) (hs : a.eval s = .slice A n c) (hn : l.length = n) (hown : Own4 w base A c l)
    (g : Nat) (y : List Int) (hx : a.eval x = .slice (some ⟨g, 0, none⟩) 1 1) (hy : IB w g 29 y) (h4 : y.length = 4) (hlen : n + 1 ≤ 1000000) (hbase : base ≤ w.heap.size)
    (h : ∀ A' c' w', Own4 w' base A' c' (l ++ [y]) → w.grownBy w' (A.map (·.block)) → wpList Try.prog ops Q rest (a.put o.dst (.slice A' (n + 1) c')) w') : wpList Try.prog ops Q (o :: rest) a w := by
  subst hn
  obtain ⟨i0, hi, hz0, hz1, hz2⟩ := info_parts infoI4
  refine wpList_plain hgd fun K hK => ?_
  obtain ⟨v', w', hrun, h2, h3, h4'⟩ := run_append_any (P := Try.prog) w base 79 o.type 29 i0 _ 4 32 Try.underlying79 hi hz0 hz1 hz2 rfl (by omega) _ _ _ hown.1 (g + 1) (some ⟨g, 0, none⟩) 1 1 (ints y)
    ⟨by rw [ints_len, h4], fun _ => ⟨_, rfl, by show g < g + 1; omega, fun j u hj => by
      have hj4 : j < y.length := by
        have := (List.getElem?_eq_some_iff.1 hj).1
        rwa [ints_len] at this
      rw [add_zero', IB.cell hy j hj4, ← hj, ints_get y j hj4]⟩⟩ (ints_one y) (by unfold maxLen; omega) (by omega) hbase
  rw [cel4_snoc] at h2
  have hl : (l ++ [y]).length = l.length + 1 := by simp
  obtain ⟨A', c', hv'⟩ : ∃ A' c', v' = .slice A' (l.length + 1) c' := by
    rcases h2.2 with ⟨_, h0⟩ | ⟨g', cap, cur, hv, _⟩
    · omega
    · exact ⟨_, _, hv⟩
  subst hv'
  unfold Oper.wp execOp
  simp only [ho, resolve, invoke, builtin, Sem.run_bind, Sem.run_pure, Result.andThen_ok, List.map_toArray, List.map_cons, List.map_nil, hs, hx, hrun]
  refine hK _ _ ?_
  refine h A' c' w' ⟨by rw [hl]; exact h2, fun z hz => ?_⟩ (by cases A <;> exact h3)
  rcases List.mem_append.1 hz with hz | hz
  · exact hown.2 z hz
  · obtain rfl := List.mem_singleton.1 hz
    exact h4
end Go.Proofs.Ytcfmipobgljbeaa
