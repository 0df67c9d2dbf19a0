/- Texts that the law rests on, laid together: Push, PushN, BigSub. -/
import Derived.Test.YthoiikkjjaldnaaDoorZ8fe900
import Derived.Test.YthoiikkjjaldnaaDoorZ7a1a29
/- append onto a row of numbers of the call's own. -/
namespace Go.Proofs.YthoiikkjjaldnaaDoor
set_option linter.unusedVariables false
set_option linter.unusedSimpArgs false
set_option maxRecDepth 100000
open Go.RowKit

theorem infoI : (Tryd.prog.info? 3).map (fun i => (i.zero, i.size, i.bytes)) = some (some (.int .i64 0), 1, 8) := by kernel_rfl

section
variable {P : Program} (w : World)

theorem run_append_of_nil (base : Nat) (t ty e : TypeId) (i : TypeInfo) (size : Nat) (ht : P.underlying t = some (.slice e)) (hi : P.info? e = some i)
    (v : Value) (n : Nat) (xs : List Value) (hown : w.ownsRow base e size v n xs) (c : Nat) : (Builtin.append_ #[t, t] ty #[v, .slice none 0 c]).run P w = .ok v w := by
  rcases hown.2 with ⟨rfl, rfl⟩ | ⟨g, cap, cur, rfl, _, _, hnc, _⟩
  · simp [Builtin.append_, run_underlying ht, sizeOf, typeInfo, hi, Builtin.lenOf, Builtin.firstCells]
  · simp [Builtin.append_, run_underlying ht, sizeOf, typeInfo, hi, Builtin.lenOf, Builtin.firstCells, hnc, storeCells]

theorem run_append_any (base : Nat) (t ty e : TypeId) (i : TypeInfo) (z : Value) (size bytes : Nat) (ht : P.underlying t = some (.slice e)) (hi : P.info? e = some i) (hz : i.zero = some z)
    (hsize : i.size = size) (hby : i.bytes = bytes) (hzs : z.cells.size = size) (hsz : 0 < size)
    (v : Value) (n : Nat) (xs : List Value) (hown : w.ownsRow base e size v n xs)
    (B : Nat) (A : Option Addr) (m c : Nat) (news : List Value) (hr : Reads w B size A m news) (h1 : ∀ u ∈ news, u.oneCell' = true)
    (h63 : n + m ≤ maxLen) (hbytes : (n + m) * bytes ≤ 140737488355328) (hbase : base ≤ w.heap.size) :
    ∃ v' w', (Builtin.append_ #[t, t] ty #[v, .slice A m c]).run P w = .ok v' w' ∧ w'.ownsRow base e size v' (n + m) (xs ++ news) ∧ w.grownBy w' v.ownBlock ∧
      (v'.ownBlock = v.ownBlock ∨ v'.ownBlock = some w.heap.size) := by
  rcases A with _ | ad
  · have hm : m = 0 := by
      rcases Nat.eq_zero_or_pos m with h0 | h0
      · exact h0
      · obtain ⟨ad, h, _⟩ := hr.2 h0
        cases h
    subst hm
    have hn : news = [] := List.eq_nil_of_length_eq_zero (by simpa using hr.1)
    subst hn
    exact ⟨v, w, run_append_of_nil w base t ty e i size ht hi v n xs hown c, by simpa using hown, World.grownBy.refl w _, .inl rfl⟩
  · have hcells : ∀ j u, news[j]? = some u → w.cell? (ad.add j) = some u := by
      intro j u hu
      rcases Nat.eq_zero_or_pos m with h0 | h0
      · subst h0
        have hn : news = [] := List.eq_nil_of_length_eq_zero (by simpa using hr.1)
        subst hn
        simp at hu
      · obtain ⟨ad', h, _, hc⟩ := hr.2 h0
        injection h with h
        subst h
        exact hc j u hu
    obtain ⟨v', w', hrun, h2, h3, _, h5⟩ := run_append_own_at (P := P) w base t ty e i z size bytes ht hi hz hsize hby hzs hsz v n xs hown ad m c news hr.1 hcells h1 h63 hbytes hbase
    exact ⟨v', w', hrun, h2, h3, h5⟩
end

theorem Own.head {w : World} {base c : Nat} {A : Option Addr} {xs : List Int} (h : Own w base A c xs) (hn : 0 < xs.length) : ∃ g, A = some ⟨g, 0, none⟩ ∧ base ≤ g ∧ g < w.heap.size := by
  obtain ⟨g, _, _, hA, h1, h2, _⟩ := h.form hn
  exact ⟨g, hA, h1, h2⟩
theorem cell_new (w : World) (v : Value) (t : TypeId) : (w.alloc (.cells #[v] t)).cell? ⟨w.heap.size, 0, none⟩ = some v := by
  rw [Blk.cell (Blk.new w t #[v]) 0]; rfl

theorem own_form {w : World} {base n : Nat} {v : Value} {vs : List Value} {ys : List Int} (h : w.ownsRow base 3 1 v n vs) (hv : vs = ints ys) : ∃ A c, v = .slice A ys.length c ∧ Own w base A c ys := by
  subst hv
  have hl : ys.length = n := by have := h.1; simpa [ints] using this
  subst hl
  rcases h.2 with ⟨hv, hn⟩ | ⟨g, cap, cur, hv, rest⟩
  · subst hv
    refine ⟨none, 0, by rw [hn], ?_⟩
    unfold Own
    rw [hn] at h ⊢
    exact h
  · subst hv
    exact ⟨_, _, rfl, h⟩

/-- append of numbers that read. -/
theorem wpList_cat {ops : Array Oper} {rest : List Oper} {o : Oper} {a : Act} {w : World} {Q : Exit → Act → World → Prop} (hgd : o.guard = none) (s x : Operand)
    (ho : o.op = .call { callee := .builtin .append, args := #[s, x], argTypes := #[36, 36] })
    (base : Nat) (A : Option Addr) (c : Nat) (xs : List Int) (hs : a.eval s = .slice A xs.length c) (hown : Own w base A c xs)
    (B : Nat) (A2 : Option Addr) (c2 : Nat) (ys : List Int) (hx : a.eval x = .slice A2 ys.length c2) (hr : Rs w B A2 ys) (hlen : xs.length + ys.length ≤ 17592186044416) (hbase : base ≤ w.heap.size)
    (h : ∀ A' c' w', Own w' base A' c' (xs ++ ys) → w.grownBy w' (A.map (·.block)) → (A' = A ∨ ∃ g, A' = some ⟨g, 0, none⟩ ∧ w.heap.size ≤ g) → wpList Tryd.prog ops Q rest (a.put o.dst (.slice A' (xs.length + ys.length) c')) w') : wpList Tryd.prog ops Q (o :: rest) a w := by
  obtain ⟨i0, hi, hz0, hz1, hz2⟩ := info_parts infoI
  refine wpList_plain hgd fun K hK => ?_
  obtain ⟨v', w', hrun, h2, h3, h4⟩ := run_append_any (P := Tryd.prog) w base 36 o.type 3 i0 (.int .i64 0) 1 8 Tryd.underlying36 hi hz0 hz1 hz2 rfl (by omega) _ _ _ hown B A2 ys.length c2 (ints ys) hr (ints_one ys) (by unfold maxLen; omega) (by omega) hbase
  have hlt := fun a ha => Own.lt hown a ha
  obtain ⟨A', c', rfl, hO⟩ := own_form h2 (ints_append xs ys)
  have hl : (xs ++ ys).length = xs.length + ys.length := by simp
  unfold Oper.wp execOp
  simp only [ho, resolve, invoke, builtin, Sem.run_bind, Sem.run_pure, Result.andThen_ok, List.map_toArray, List.map_cons, List.map_nil, hs, hx, hrun]
  refine hK _ _ ?_
  rw [hl]
  refine h A' c' w' hO (by cases A <;> exact h3) ?_
  have hn := hO.2
  rcases hn with ⟨hv, h0⟩ | ⟨g, cap, cur, hv, _⟩
  · injection hv with hA _ _
    subst hA
    left
    cases A with
    | none => rfl
    | some ad =>
      rcases h4 with h4 | h4
      · simp [Value.ownBlock] at h4
      · simp [Value.ownBlock] at h4
  · injection hv with hA _ _
    subst hA
    rcases h4 with h4 | h4
    · left
      cases A with
      | none => simp [Value.ownBlock] at h4
      | some ad =>
        simp [Value.ownBlock] at h4
        rcases hown.2 with ⟨hv2, _⟩ | ⟨g2, cap2, cur2, hv2, _⟩
        · cases hv2
        · injection hv2 with hA2 _ _
          injection hA2 with hA2
          subst hA2
          simp at h4
          subst h4
          rfl
    · right
      simp [Value.ownBlock] at h4
      exact ⟨g, rfl, by omega⟩

/-- append of one number. -/
theorem wpList_push {ops : Array Oper} {rest : List Oper} {o : Oper} {a : Act} {w : World} {Q : Exit → Act → World → Prop} (hgd : o.guard = none) (s x : Operand)
    (ho : o.op = .call { callee := .builtin .append, args := #[s, x], argTypes := #[36, 36] })
    (base : Nat) (A : Option Addr) (c : Nat) (xs : List Int) (hs : a.eval s = .slice A xs.length c) (hown : Own w base A c xs)
    (ad : Addr) (y : Int) (hx : a.eval x = .slice (some ad) 1 1) (hc : w.cell? ad = some (.int .i64 y)) (hlen : xs.length + 1 ≤ 17592186044416) (hbase : base ≤ w.heap.size)
    (h : ∀ A' c' w', Own w' base A' c' (xs ++ [y]) → w.grownBy w' (A.map (·.block)) → (A' = A ∨ ∃ g, A' = some ⟨g, 0, none⟩ ∧ w.heap.size ≤ g) → wpList Tryd.prog ops Q rest (a.put o.dst (.slice A' (xs.length + 1) c')) w') : wpList Tryd.prog ops Q (o :: rest) a w :=
  wpList_cat hgd s x ho base A c xs hs hown (ad.block + 1) (some ad) 1 [y] hx ⟨by simp [ints], fun _ => ⟨ad, rfl, by omega, fun j u hj => by
    match j, hj with
    | 0, hj => simp [ints] at hj; subst hj; have e : ad.add 0 = ad := by unfold Addr.add; simp
               rw [e]; exact hc⟩⟩ hlen hbase h
end Go.Proofs.YthoiikkjjaldnaaDoor

/- append, the length as it is written. -/
namespace Go.Proofs.YthoiikkjjaldnaaDoor
set_option linter.unusedVariables false
set_option linter.unusedSimpArgs false
set_option maxRecDepth 100000
open Go.RowKit

theorem wpList_pushN {ops : Array Oper} {rest : List Oper} {o : Oper} {a : Act} {w : World} {Q : Exit → Act → World → Prop} (hgd : o.guard = none) (s x : Operand)
    (ho : o.op = .call { callee := .builtin .append, args := #[s, x], argTypes := #[36, 36] })
    (base : Nat) (A : Option Addr) (c n : Nat) (xs : List Int) (hs : a.eval s = .slice A n c) (hn : xs.length = n) (hown : Own w base A c xs)
    (ad : Addr) (y : Int) (hx : a.eval x = .slice (some ad) 1 1) (hc : w.cell? ad = some (.int .i64 y)) (hlen : n + 1 ≤ 17592186044416) (hbase : base ≤ w.heap.size)
    (h : ∀ A' c' w', Own w' base A' c' (xs ++ [y]) → w.grownBy w' (A.map (·.block)) → (A' = A ∨ ∃ g, A' = some ⟨g, 0, none⟩ ∧ w.heap.size ≤ g) → wpList Tryd.prog ops Q rest (a.put o.dst (.slice A' (n + 1) c')) w') : wpList Tryd.prog ops Q (o :: rest) a w := by
  subst hn
  exact wpList_push hgd s x ho base A c xs hs hown ad y hx hc hlen hbase h
theorem wpList_catN {ops : Array Oper} {rest : List Oper} {o : Oper} {a : Act} {w : World} {Q : Exit → Act → World → Prop} (hgd : o.guard = none) (s x : Operand)
    (ho : o.op = .call { callee := .builtin .append, args := #[s, x], argTypes := #[36, 36] })
    (base : Nat) (A : Option Addr) (c n : Nat) (xs : List Int) (hs : a.eval s = .slice A n c) (hn : xs.length = n) (hown : Own w base A c xs)
    (B : Nat) (A2 : Option Addr) (c2 m : Nat) (ys : List Int) (hx : a.eval x = .slice A2 m c2) (hm : ys.length = m) (hr : Rs w B A2 ys) (hlen : n + m ≤ 17592186044416) (hbase : base ≤ w.heap.size)
    (h : ∀ A' c' w', Own w' base A' c' (xs ++ ys) → w.grownBy w' (A.map (·.block)) → (A' = A ∨ ∃ g, A' = some ⟨g, 0, none⟩ ∧ w.heap.size ≤ g) → wpList Tryd.prog ops Q rest (a.put o.dst (.slice A' (n + m) c')) w') : wpList Tryd.prog ops Q (o :: rest) a w := by
  subst hn
  subst hm
  exact wpList_cat hgd s x ho base A c xs hs hown B A2 c2 ys hx hr hlen hbase h

/-- What lies below the row's base is as it was. -/
theorem below_grown {a w w' : World} {base : Nat} {A : Option Addr} {c : Nat} {xs : List Int} (hB : Below base a w) (hO : Own w base A c xs) (hG : w.grownBy w' (A.map (·.block))) (hb : base ≤ w.heap.size) : Below base a w' :=
  hB.grown hG hb (fun k hk => by
    cases A with
    | none => cases hk
    | some ad => simp at hk; subst hk; exact (hO.lt ad rfl).1)
/-- A block that is not the row's stays. -/
theorem Blk.grownA {w w' : World} {g : Nat} {t : TypeId} {cs : Array Value} {A : Option Addr} (h : Blk w g t cs) (hG : w.grownBy w' (A.map (·.block))) (hne : ∀ ad, A = some ad → ad.block ≠ g) : Blk w' g t cs :=
  Blk.grown h hG (fun e => by
    cases A with
    | none => cases e
    | some ad => simp at e; exact hne ad rfl e.symm)
end Go.Proofs.YthoiikkjjaldnaaDoor

/- The walk of sub on lists of words. -/
namespace Go.Proofs.YthoiikkjjaldnaaDoor
set_option linter.unusedVariables false
set_option linter.unusedSimpArgs false
set_option maxRecDepth 100000
open Go.RowKit

structure SubInv (w wr : World) (an : Nat) (ua ub : List Nat) (k c : Nat) (rs : List Nat) : Prop where
  len : rs.length = an
  ok : wok rs
  val : wv (rs.take k) + wv (ub.take k) = wv (ua.take k) + 4294967296 ^ k * c
  own : wr.ownsRow w.heap.size 176 1 (.slice (some ⟨w.heap.size, 0, none⟩) an an) an (W32 rs)
  bel : Below w.heap.size w wr

theorem SubInv.step {w wr : World} {an : Nat} {ua ub : List Nat} {k c : Nat} {rs : List Nat} (h : SubInv w wr an ua ub k c rs) (hk : k < an)
    {x c' xa xb : Nat} (hx : x < 4294967296) (hxa : ua.getD k 0 = xa) (hxb : ub.getD k 0 = xb) (hv : x + xb + c = xa + 4294967296 * c') :
    SubInv w (wr.setCell ⟨w.heap.size, k, none⟩ (.int .u32 (x : Nat))) an ua ub (k + 1) c' (rs.set k x) := by
  have hl := h.len
  refine ⟨by simpa using h.len, wok_set h.ok k hx, ?_, ?_, h.bel.setCell (Nat.le_refl _) _⟩
  · rw [take_set_succ _ _ _ (by omega), wv_snoc, List.length_take, Nat.min_eq_left (by omega), wv_take_succ', wv_take_succ', hxa, hxb, Nat.pow_succ]
    have h1 := h.val
    have h2 : 4294967296 ^ k * (x + xb + c) = 4294967296 ^ k * (xa + 4294967296 * c') := by rw [hv]
    simp only [Nat.mul_add] at h2
    rw [Nat.mul_assoc]
    omega
  · have := (h.own.stored k (.int .u32 (x : Nat))).1
    rwa [W32_set] at this

theorem SubInv.fin {w wr : World} {an : Nat} {ua ub : List Nat} {c : Nat} {rs : List Nat} (h : SubInv w wr an ua ub an c rs) (h1 : ua.length = an) (h2 : ub.length ≤ an) (hle : wv ub ≤ wv ua) :
    wv rs = wv ua - wv ub := by
  have hv := h.val
  have hl := h.len
  rw [List.take_of_length_le (l := ua) (by omega), List.take_of_length_le (l := ub) (by omega), List.take_of_length_le (l := rs) (by omega)] at hv
  have h3 := wv_lt h.ok
  rw [hl] at h3
  have : c = 0 := by
    by_cases hc : c = 0
    · exact hc
    · exfalso
      have := Nat.mul_le_mul_left (4294967296 ^ an) (show 1 ≤ c by omega)
      omega
  subst this
  omega

end Go.Proofs.YthoiikkjjaldnaaDoor
