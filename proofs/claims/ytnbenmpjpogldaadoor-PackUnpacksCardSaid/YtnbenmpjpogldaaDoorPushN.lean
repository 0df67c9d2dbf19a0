/- append, the length as it is written. -/
import Derived.Test.YtnbenmpjpogldaaDoorPush
namespace Go.Proofs.YtnbenmpjpogldaaDoor
set_option linter.unusedVariables false
set_option linter.unusedSimpArgs false
set_option maxRecDepth 100000
open Go.RowKit

theorem wpList_pushN {ops : Array Oper} {rest : List Oper} {o : Oper} {a : Act} {w : World} {Q : Exit → Act → World → Prop} (hgd : o.guard = none) (s x : Operand)
    (ho : o.op = .call { callee := .builtin .append, args := #[s, x], argTypes := #[44, 44] })
    (base : Nat) (A : Option Addr) (c n : Nat) (xs : List Int) (hs : a.eval s = .slice A n c) (hn : xs.length = n) (hown : Own w base A c xs)
    (ad : Addr) (y : Int) (hx : a.eval x = .slice (some ad) 1 1) (hc : w.cell? ad = some (.int .i64 y)) (hlen : n + 1 ≤ 17592186044416) (hbase : base ≤ w.heap.size)
    (h : ∀ A' c' w', Own w' base A' c' (xs ++ [y]) → w.grownBy w' (A.map (·.block)) → (A' = A ∨ ∃ g, A' = some ⟨g, 0, none⟩ ∧ w.heap.size ≤ g) → wpList Tryd.prog ops Q rest (a.put o.dst (.slice A' (n + 1) c')) w') : wpList Tryd.prog ops Q (o :: rest) a w := by
  subst hn
  exact wpList_push hgd s x ho base A c xs hs hown ad y hx hc hlen hbase h
theorem wpList_catN {ops : Array Oper} {rest : List Oper} {o : Oper} {a : Act} {w : World} {Q : Exit → Act → World → Prop} (hgd : o.guard = none) (s x : Operand)
    (ho : o.op = .call { callee := .builtin .append, args := #[s, x], argTypes := #[44, 44] })
    (base : Nat) (A : Option Addr) (c n : Nat) (xs : List Int) (hs : a.eval s = .slice A n c) (hn : xs.length = n) (hown : Own w base A c xs)
    (B : Nat) (A2 : Option Addr) (c2 m : Nat) (ys : List Int) (hx : a.eval x = .slice A2 m c2) (hm : ys.length = m) (hr : Rs w B A2 ys) (hlen : n + m ≤ 17592186044416) (hbase : base ≤ w.heap.size)
    (h : ∀ A' c' w', Own w' base A' c' (xs ++ ys) → w.grownBy w' (A.map (·.block)) → (A' = A ∨ ∃ g, A' = some ⟨g, 0, none⟩ ∧ w.heap.size ≤ g) → wpList Tryd.prog ops Q rest (a.put o.dst (.slice A' (n + m) c')) w') : wpList Tryd.prog ops Q (o :: rest) a w := by
  subst hn
  subst hm
  exact wpList_cat hgd s x ho base A c xs hs hown B A2 c2 ys hx hr hlen hbase h

/-- What lies below the row's base is as it was. -/
theorem below_grown {a w w' : World} {base : Nat} {A : Option Addr} {c : Nat} {xs : List Int} (hB : Below base a w) (hO : Own w base A c xs) (hG : w.grownBy w' (A.map (·.block))) (hb : base ≤ w.heap.size) : Below base a w' :=
  hB.grown hG hb (fun k hk => by
    cases A with
    | none => cases hk
    | some ad => simp at hk; subst hk; exact (hO.lt ad rfl).1)
/-- A block that is not the row's stays. -/
theorem Blk.grownA {w w' : World} {g : Nat} {t : TypeId} {cs : Array Value} {A : Option Addr} (h : Blk w g t cs) (hG : w.grownBy w' (A.map (·.block))) (hne : ∀ ad, A = some ad → ad.block ≠ g) : Blk w' g t cs :=
  Blk.grown h hG (fun e => by
    cases A with
    | none => cases e
    | some ad => simp at e; exact hne ad rfl e.symm)
/-- Where a row has moved to, it is not an elder block. -/
theorem moved_ne {w : World} {A A' : Option Addr} {g : Nat} (h : A' = A ∨ ∃ g', A' = some ⟨g', 0, none⟩ ∧ w.heap.size ≤ g') (hne : ∀ ad, A = some ad → ad.block ≠ g) (hg : g < w.heap.size) : ∀ ad, A' = some ad → ad.block ≠ g := by
  rcases h with rfl | ⟨g', rfl, hg'⟩
  · exact hne
  · intro ad had
    injection had with had
    subst had
    show g' ≠ g
    omega
end Go.Proofs.YtnbenmpjpogldaaDoor
