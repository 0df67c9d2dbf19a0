/- The memory of a session as a struct: its cells, its block, its fields set. -/
import Derived.Test.YtcfmipobgljbeaaMem
import Derived.Test.YtcfmipobgljbeaaRow
import Derived.Deep.MidRow
namespace Go.Proofs.Ytcfmipobgljbeaa
set_option linter.unusedVariables false
set_option linter.unusedSimpArgs false
set_option maxRecDepth 100000
open Go.RowKit

/-- A memory. -/
structure Mm where
  r : List Int
  p : List Int
  e : List Int
  ga : Int
  pi : Int
  la : Int
  er : Int
  se : Int
  si : Bool
structure Mm.ok (m : Mm) : Prop where
  r : m.r.length = 8
  p : m.p.length = 8
  e : m.e.length = 80
def Mm.nums (m : Mm) : List Int := m.r ++ (m.p ++ (m.e ++ [m.ga, m.pi, m.la, m.er, m.se]))
def Mm.cs (m : Mm) : List Value := ints m.r ++ (ints m.p ++ (ints m.e ++ [.int .i64 m.ga, .int .i64 m.pi, .int .i64 m.la, .int .i64 m.er, .int .i64 m.se, .bool m.si]))
def Mm.ag (m : Mm) : Array Value := m.cs.toArray
def MB (w : World) (g : Nat) (m : Mm) : Prop := Blk w g 44 m.ag
/-- The fields but for the arrays. -/
def Mm.tl (m : Mm) : List Value := [.int .i64 m.ga, .int .i64 m.pi, .int .i64 m.la, .int .i64 m.er, .int .i64 m.se, .bool m.si]

section
variable {w w' : World} {g : Nat} {t : TypeId}
theorem range_of {cs : List Value} (h : Blk w g t cs.toArray) (A xs B : List Value) (he : cs = A ++ (xs ++ B)) {o : Nat} (ho : A.length = o) : w.rangeAt g o xs := fun j v hv => by
  subst he; subst ho
  rw [Blk.cell h]
  have hj := (List.getElem?_eq_some_iff.1 hv).1
  simp only [List.getElem?_toArray]
  rw [List.getElem?_append_right (by omega), Nat.add_sub_cancel_left, List.getElem?_append_left hj, hv]
theorem set_one {A B : List Value} {x y : Value} {o : Nat} (ho : A.length = o) : (A ++ x :: B).toArray.setIfInBounds o y = (A ++ y :: B).toArray := by
  subst ho
  simp
theorem blk_setCells : ∀ (vs xs A B : List Value) (w : World), Blk w g t (A ++ (xs ++ B)).toArray → vs.length = xs.length → Blk (w.setCells g A.length vs) g t (A ++ (vs ++ B)).toArray
  | [], [], A, B, w, h, _ => by simpa [World.setCells] using h
  | v :: vs, x :: xs, A, B, w, h, hl => by
    have h1 := Blk.set_ h A.length v
    rw [List.cons_append, set_one rfl] at h1
    have h2 := blk_setCells vs xs (A ++ [v]) B (w.setCell ⟨g, A.length, none⟩ v) (by simpa using h1) (by simpa using hl)
    simpa [World.setCells] using h2
theorem below_sc {B b : Nat} {a : World} (hb : B ≤ b) : ∀ (vs : List Value) (o : Nat) (w : World), Below B a w → Below B a (w.setCells b o vs)
  | [], _, _, h => h
  | v :: vs, o, w, h => below_sc hb vs (o + 1) _ (h.setCell hb v)
theorem blk_sc {k b : Nat} {tt : TypeId} {cs : Array Value} (hk : k ≠ b) : ∀ (vs : List Value) (o : Nat) (w : World), Blk w k tt cs → Blk (w.setCells b o vs) k tt cs
  | [], _, _, h => h
  | v :: vs, o, w, h => blk_sc hk vs (o + 1) _ (Blk.far h (p := ⟨b, o, none⟩) hk v)
end

section
variable {w w' : World} {g : Nat} {m : Mm}
theorem MB.R (h : MB w g m) (_ : m.ok) : w.rangeAt g 0 (ints m.r) := range_of h [] (ints m.r) _ rfl rfl
theorem MB.P (h : MB w g m) (k : m.ok) : w.rangeAt g 8 (ints m.p) := range_of h (ints m.r) (ints m.p) (ints m.e ++ m.tl) rfl (by rw [ints_len, k.r])
theorem MB.E (h : MB w g m) (k : m.ok) : w.rangeAt g 16 (ints m.e) := range_of h (ints m.r ++ ints m.p) (ints m.e) m.tl (by unfold Mm.cs Mm.tl; simp only [List.append_assoc]) (by simp only [List.length_append, ints_len, k.r, k.p])
theorem MB.T (h : MB w g m) (k : m.ok) : w.rangeAt g 96 m.tl := range_of h (ints m.r ++ (ints m.p ++ ints m.e)) m.tl [] (by unfold Mm.cs Mm.tl; simp only [List.append_assoc, List.append_nil]) (by simp only [List.length_append, ints_len, k.r, k.p, k.e])
theorem MB.cga (h : MB w g m) (k : m.ok) : w.cell? ⟨g, 96, none⟩ = some (.int .i64 m.ga) := h.T k 0 _ rfl
theorem MB.cpi (h : MB w g m) (k : m.ok) : w.cell? ⟨g, 97, none⟩ = some (.int .i64 m.pi) := h.T k 1 _ rfl
theorem MB.cla (h : MB w g m) (k : m.ok) : w.cell? ⟨g, 98, none⟩ = some (.int .i64 m.la) := h.T k 2 _ rfl
theorem MB.cer (h : MB w g m) (k : m.ok) : w.cell? ⟨g, 99, none⟩ = some (.int .i64 m.er) := h.T k 3 _ rfl
theorem MB.cse (h : MB w g m) (k : m.ok) : w.cell? ⟨g, 100, none⟩ = some (.int .i64 m.se) := h.T k 4 _ rfl
theorem MB.csi (h : MB w g m) (k : m.ok) : w.cell? ⟨g, 101, none⟩ = some (.bool m.si) := h.T k 5 _ rfl
theorem MB.whole (h : MB w g m) : w.rangeAt g 0 m.cs := range_of h [] m.cs [] (by simp) rfl
theorem MB.frozen (h : MB w g m) (i : Nat) : w.frozen? ⟨g, i, none⟩ = false := Blk.frozen h i
theorem MB.new (w : World) (m : Mm) : MB (w.alloc (.cells m.ag 44)) w.heap.size m := Blk.new w _ _
theorem Mm.len (m : Mm) (k : m.ok) : m.cs.length = 102 := by unfold Mm.cs; simp only [List.length_append, ints_len, k.r, k.p, k.e, List.length_cons, List.length_nil]
theorem Mm.size (m : Mm) (k : m.ok) : m.ag.size = 102 := by unfold Mm.ag; rw [List.size_toArray, m.len k]
theorem Mm.one (m : Mm) : m.ag.all (·.oneCell') = true := by
  rw [Array.all_eq_true_iff_forall_mem]
  intro v hv
  have : v ∈ m.cs := by simpa [Mm.ag] using hv
  unfold Mm.cs at this
  simp only [List.mem_append, List.mem_cons, List.not_mem_nil, or_false] at this
  rcases this with h | h | h | h | h | h | h | h | h
  · exact ints_one _ _ h
  · exact ints_one _ _ h
  · exact ints_one _ _ h
  all_goals (subst h; rfl)
theorem MB.there (h : MB w g m) (k : m.ok) : w.there g 0 102 := fun j hj => by
  refine ⟨?_, Blk.frozen h _⟩
  rw [Blk.cell h]
  have : 0 + j < m.ag.size := by rw [m.size k]; omega
  rw [Array.getElem?_eq_getElem this]; rfl
theorem MB.thereE (h : MB w g m) (k : m.ok) : w.there g 16 80 := fun j hj => by
  have h1 := h.there k (16 + j) (by omega)
  rwa [Nat.zero_add] at h1
theorem MB.set_e (h : MB w g m) (k : m.ok) (e : List Int) (he : e.length = 80) : MB (w.setCells g 16 (ints e)) g { m with e := e } := by
  have h0 : Blk w g 44 ((ints m.r ++ ints m.p) ++ (ints m.e ++ m.tl)).toArray := by
    have e1 : m.ag = ((ints m.r ++ ints m.p) ++ (ints m.e ++ m.tl)).toArray := by unfold Mm.ag Mm.cs Mm.tl; simp only [List.append_assoc]
    rw [← e1]; exact h
  have h1 := blk_setCells (ints e) (ints m.e) _ _ w h0 (by rw [ints_len, ints_len, he, k.e])
  have hl : (ints m.r ++ ints m.p).length = 16 := by simp only [List.length_append, ints_len, k.r, k.p]
  rw [hl] at h1
  have e2 : ({ m with e := e } : Mm).ag = ((ints m.r ++ ints m.p) ++ (ints e ++ m.tl)).toArray := by unfold Mm.ag Mm.cs Mm.tl; simp only [List.append_assoc]
  unfold MB; rw [e2]; exact h1
theorem MB.set_tl (h : MB w g m) (k : m.ok) (j : Nat) (v : Value) (m' : Mm) (hr : m'.r = m.r) (hp : m'.p = m.p) (he : m'.e = m.e) (ht : m'.tl = m.tl.set j v) (hj : j < 6) : MB (w.setCell ⟨g, 96 + j, none⟩ v) g m' := by
  have h1 := Blk.set_ h (96 + j) v
  have e0 : ∀ m : Mm, m.ag = ((ints m.r ++ (ints m.p ++ ints m.e)) ++ m.tl).toArray := fun m => by unfold Mm.ag Mm.cs Mm.tl; simp only [List.append_assoc]
  have hl : (ints m.r ++ (ints m.p ++ ints m.e)).length = 96 := by simp only [List.length_append, ints_len, k.r, k.p, k.e]
  have e1 : m.ag.setIfInBounds (96 + j) v = m'.ag := by
    rw [e0 m, e0 m', hr, hp, he, ht]
    simp only [List.setIfInBounds_toArray]
    rw [List.set_append_right _ _ (by omega), hl, Nat.add_sub_cancel_left]
  rw [e1] at h1
  exact h1
theorem MB.set_se (h : MB w g m) (k : m.ok) (x : Int) : MB (w.setCell ⟨g, 100, none⟩ (.int .i64 x)) g { m with se := x } := h.set_tl k 4 (.int .i64 x) _ rfl rfl rfl rfl (by omega)
theorem MB.set_er (h : MB w g m) (k : m.ok) (x : Int) : MB (w.setCell ⟨g, 99, none⟩ (.int .i64 x)) g { m with er := x } := h.set_tl k 3 (.int .i64 x) _ rfl rfl rfl rfl (by omega)
theorem Mm.ok.se {m : Mm} (k : m.ok) (x : Int) : ({ m with se := x } : Mm).ok := ⟨k.r, k.p, k.e⟩
theorem Mm.ok.er {m : Mm} (k : m.ok) (x : Int) : ({ m with er := x } : Mm).ok := ⟨k.r, k.p, k.e⟩
theorem Mm.ok.ex {m : Mm} (k : m.ok) {e : List Int} (he : e.length = 80) : ({ m with e := e } : Mm).ok := ⟨k.r, k.p, he⟩
end

theorem sizeM : (Try.prog.info? 44).map (·.size) = some 102 := by kernel_rfl

/-- An aggregate whose cells are numbers and a last Bool. -/
theorem value_agb {P : Program} {w : World} {r : Reach} {b : Nat} {t : TypeId} {v : Value} {d : TypeDesc} {n : Nat} {ti tb : TypeId} (ht : P.underlying t = some d) (hd : isAggD d = true) (hc : P.cellTypes P.depth t = some (List.replicate n ti ++ [tb])) (hn : P.cellsOf t = n + 1)
    (hti : P.underlying ti = some (.int .i64)) (htb : P.underlying tb = some .bool)
    (h : Value.okWide P w r b t v) : ∃ xs q, v = .agg (ints xs ++ [Value.bool q]).toArray ∧ xs.length = n ∧ W64 xs := by
  unfold Value.okWide at h
  rw [ht] at h
  have h' : ∃ cs, v = .agg cs ∧ cs.size = P.cellsOf t ∧ Row.okWide P w r b t cs := by
    cases d <;> first | exact h | (simp [isAggD] at hd)
  obtain ⟨cs, rfl, hs, ts, hts, _, hall⟩ := h'
  rw [hc] at hts
  obtain rfl : List.replicate n ti ++ [tb] = ts := by simpa using hts
  rw [hn] at hs
  have each : ∀ (i : Nat) (u : Value), i < n → cs[i]? = some u → ∃ z, u = Value.int .i64 z ∧ IntKind.i64.has z := by
    intro i u hi hu
    obtain ⟨q, hq, hk⟩ := hall i u hu
    have hq2 : q = ti := by
      rw [Nat.mod_eq_of_lt (by rw [List.length_append, List.length_replicate, List.length_singleton]; omega), List.getElem?_append_left (by rw [List.length_replicate]; exact hi)] at hq
      exact (List.mem_replicate.1 (List.mem_of_getElem? hq)).2
    subst hq2
    exact cell_int hti hk
  obtain ⟨q, hq⟩ : ∃ q, cs[n]? = some (.bool q) := by
    have hu : cs[n]? = some cs[n] := Array.getElem?_eq_getElem (by omega)
    obtain ⟨q, hq, hk⟩ := hall n _ hu
    have hq2 : q = tb := by
      rw [Nat.mod_eq_of_lt (by rw [List.length_append, List.length_replicate, List.length_singleton]; omega), List.getElem?_append_right (by rw [List.length_replicate]; exact Nat.le_refl _)] at hq
      simpa using hq.symm
    subst hq2
    obtain ⟨z, hz⟩ := cell_bool htb hk
    exact ⟨z, by rw [hu, hz]⟩
  have hl : cs.toList.length = n + 1 := by simpa using hs
  refine ⟨(cs.toList.take n).map intOf, q, ?_, by rw [List.length_map, List.length_take, hl]; omega, ?_⟩
  · have : cs.toList = ints ((cs.toList.take n).map intOf) ++ [Value.bool q] := by
      apply List.ext_getElem?
      intro i
      rcases Nat.lt_trichotomy i n with hi | hi | hi
      · rw [List.getElem?_append_left (by simp [ints]; omega)]
        unfold ints
        rw [List.map_map, List.getElem?_map, List.getElem?_take, if_pos hi]
        have hu : cs.toList[i]? = some (cs.toList[i]'(by omega)) := List.getElem?_eq_getElem _
        rw [hu]
        obtain ⟨z, hz, _⟩ := each i _ hi (by rw [← Array.getElem?_toList]; exact hu)
        rw [hz]; rfl
      · subst hi
        rw [List.getElem?_append_right (by rw [ints_len, List.length_map, List.length_take]; omega)]
        have : (ints ((cs.toList.take i).map intOf)).length = i := by rw [ints_len, List.length_map, List.length_take, hl]; omega
        rw [this, Nat.sub_self]
        simpa using hq
      · rw [List.getElem?_eq_none (by omega), List.getElem?_eq_none (by rw [List.length_append, ints_len, List.length_map, List.length_take, hl]; simp; omega)]
    rw [← this]
  · intro x hx
    obtain ⟨u, hu, rfl⟩ := List.mem_map.1 hx
    obtain ⟨i, hi⟩ := List.getElem?_of_mem hu
    rw [List.getElem?_take] at hi
    split at hi
    · next hlt =>
      obtain ⟨z, rfl, hz⟩ := each i u hlt (by simpa using hi)
      exact range_i64 hz
    · cases hi
theorem mm_of {xs : List Int} (h : xs.length = 101) (q : Bool) : ∃ m : Mm, m.ok ∧ m.nums = xs ∧ (ints xs ++ [Value.bool q]).toArray = m.ag := by
  obtain ⟨a, b, ha, hl, rfl⟩ : ∃ a b : List Int, a.length = 8 ∧ b.length = 93 ∧ xs = a ++ b := ⟨xs.take 8, xs.drop 8, by rw [List.length_take]; omega, by rw [List.length_drop]; omega, (List.take_append_drop 8 xs).symm⟩
  obtain ⟨p, c, hp, hl2, rfl⟩ : ∃ p c : List Int, p.length = 8 ∧ c.length = 85 ∧ b = p ++ c := ⟨b.take 8, b.drop 8, by rw [List.length_take]; omega, by rw [List.length_drop]; omega, (List.take_append_drop 8 b).symm⟩
  obtain ⟨e, f, he, hl3, rfl⟩ : ∃ e f : List Int, e.length = 80 ∧ f.length = 5 ∧ c = e ++ f := ⟨c.take 80, c.drop 80, by rw [List.length_take]; omega, by rw [List.length_drop]; omega, (List.take_append_drop 80 c).symm⟩
  match f, hl3 with
  | [x0, x1, x2, x3, x4], _ => exact ⟨⟨a, p, e, x0, x1, x2, x3, x4, q⟩, ⟨ha, hp, he⟩, rfl, by unfold Mm.ag Mm.cs; simp [ints]⟩
/-- A memory, handed in. -/
theorem value_mem {w : World} {r : Reach} {b : Nat} {v : Value} (h : Value.okWide Try.prog w r b 44 v) : ∃ m : Mm, v = .agg m.ag ∧ m.ok ∧ W64 m.nums := by
  obtain ⟨xs, q, rfl, hl, hw⟩ := value_agb (n := 101) (ti := 3) (tb := 4) Try.underlying44 rfl (by kernel_rfl) (by kernel_rfl) Try.underlying3 Try.underlying4 h
  obtain ⟨m, hk, e1, e2⟩ := mm_of hl q
  exact ⟨m, by rw [e2], hk, by rw [e1]; exact hw⟩

/-! A whole struct out of a block, into a block; as an answer. -/
section
variable {w : World} {g : Nat} {m : Mm}
theorem wpList_storeM {ops : Array Oper} {rest : List Oper} {o : Oper} {a : Act} {Q : Exit → Act → World → Prop} (hgd : o.guard = none) (x y : Operand) (ho : o.op = .store 44 x y)
    (g : Nat) (m0 : Mm) (m : Mm) (hx : a.eval x = .pointer (some ⟨g, 0, none⟩)) (hy : a.eval y = .agg m.ag) (h : MB w g m0) (k0 : m0.ok) (k : m.ok)
    (kk : wpList Try.prog ops Q rest (a.put o.dst undef) (w.setRow g m.ag)) : wpList Try.prog ops Q (o :: rest) a w :=
  wpList_store_row hgd 44 x y ho g m.ag hx hy 44 m0.ag h (by rw [sizeM, m.size k]) (by rw [m.size k, m0.size k0]) m.one kk
theorem wpList_loadM {ops : Array Oper} {rest : List Oper} {o : Oper} {a : Act} {Q : Exit → Act → World → Prop} (hw : Region.wanted o (yielded ops a.tmps) = true) (x : Operand) (ho : o.op = .load 44 x)
    (g : Nat) (m : Mm) (hx : a.eval x = .pointer (some ⟨g, 0, none⟩)) (h : MB w g m) (k0 : m.ok)
    (kk : wpList Try.prog ops Q rest (a.put o.dst (.agg m.ag)) w) : wpList Try.prog ops Q (o :: rest) a w :=
  Go.BigFrame.wpList_want hw fun K hK => wp_load_row 44 x ho g hx 44 m.ag (0, 0) _ h Try.underlying44 rfl (by rw [sizeM, m.size k0]) (hK _ _ kk)
theorem MB.setRow {m0 : Mm} (h : MB w g m0) (m : Mm) : MB (w.setRow g m.ag) g m := setRow_heap w g _ _ _ _ h
theorem results_mem1 {fn : Func} {p : Tmp} (h : fn.results = #[.cell p 44]) (tmps : Array Value) (w : World) (g : Nat) (m : Mm)
    (hp : tmps.getD p undef = .pointer (some ⟨g, 0, none⟩)) (hg : MB w g m) (k : m.ok) :
    (results fn tmps).run Try.prog w = .ok (.agg m.ag) w := by
  have hp' : tmps[p]?.getD undef = .pointer (some ⟨g, 0, none⟩) := by simpa using hp
  have hr := run_loadVar_row (P := Try.prog) w g 44 44 m.ag (0, 0) _ hg Try.underlying44 rfl (by rw [sizeM, m.size k])
  simp [results, h, hp', asAddr, hr]
theorem results_mem3 {fn : Func} {p q r : Tmp} (h : fn.results = #[.cell p 44, .tmp q, .tmp r]) (tmps : Array Value) (w : World) (g : Nat) (m : Mm)
    (hp : tmps.getD p undef = .pointer (some ⟨g, 0, none⟩)) (hg : MB w g m) (k : m.ok) :
    (results fn tmps).run Try.prog w = .ok (.tuple #[.agg m.ag, tmps.getD q undef, tmps.getD r undef]) w := by
  have hp' : tmps[p]?.getD undef = .pointer (some ⟨g, 0, none⟩) := by simpa using hp
  have hr := run_loadVar_row (P := Try.prog) w g 44 44 m.ag (0, 0) _ hg Try.underlying44 rfl (by rw [sizeM, m.size k])
  simp [results, h, hp', asAddr, hr]
end
def zeroM : Mm := ⟨List.replicate 8 0, List.replicate 8 0, List.replicate 80 0, 0, 0, 0, 0, 0, false⟩
theorem zeroM_ok : zeroM.ok := ⟨rfl, rfl, rfl⟩
theorem zeroM_ag : Try.zeroCells44 = zeroM.ag := by kernel_rfl
end Go.Proofs.Ytcfmipobgljbeaa
