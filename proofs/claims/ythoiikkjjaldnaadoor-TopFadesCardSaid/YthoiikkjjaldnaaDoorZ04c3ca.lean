/- Texts that the law rests on, laid together: EnM, EnS, EnB, EnT, UnC. -/
import Derived.Test.YthoiikkjjaldnaaDoorZ9c2894
import Derived.Test.YthoiikkjjaldnaaDoorZeb5293
import Derived.Test.YthoiikkjjaldnaaDoorZ03f83b
import Derived.Test.YthoiikkjjaldnaaDoorZ3296f7
import Derived.Test.YthoiikkjjaldnaaDoorZ56770d
import Derived.Test.YthoiikkjjaldnaaDoorZd30a9a
import Derived.Test.YthoiikkjjaldnaaDoorZ791f0a
import Derived.Test.YthoiikkjjaldnaaDoorZ277b83
import Derived.Laws.CopyOwn
import Derived.Test.YthoiikkjjaldnaaDoorZc583e9
import Derived.Test.YthoiikkjjaldnaaDoorZ9f109e
import Derived.BigRegion
/- What Encode answers, in plain words. -/
namespace Go.Proofs.YthoiikkjjaldnaaDoor
set_option linter.unusedVariables false
set_option linter.unusedSimpArgs false
set_option maxRecDepth 100000
open Go.RowKit

/-- One filtered half: 40 of the 80 samples. -/
def halfL (o : List Int) (s : Nat) : List Int := (o.drop (s * 40)).take 40
def quietV (o : List Int) : Bool := decide (dotL o o 80 < 16 * 80)
/-- The packet's kind; the memory that it begins with. -/
def enKd (reset : Bool) (o : List Int) : Int := if reset then 1 else if quietV o then 2 else 0
def enM0 (reset : Bool) (m : Mm) : Mm := if reset then freshM else m
/-- The reflections' numbers, of the 120 samples. -/
def enRf (x : List Int) : List Int := padTo 8 (levR (corF x (corG x) 9)).1
def enQ (x : List Int) : List Int := aL qV qErr (enRf x)
/-- The numbers' reflections. -/
def enNow (x : List Int) : List Int := (List.range 8).map (aF lvV (enQ x))
/-- The memory behind s halves. -/
def enK (was now o : List Int) (m : Mm) : Nat → Mm
  | 0 => m
  | s + 1 => frP false (frA was now s) (enK was now o m s) (chU (enK was now o m s) (frA was now s) (halfL o s))
/-- What is chosen for the half s. -/
def enU (was now o : List Int) (m : Mm) (s : Nat) : List Int := chU (enK was now o m s) (frA was now s) (halfL o s)
/-- The packet of this kind, these numbers, these halves. -/
def enP (kd : Int) (q was now o : List Int) (m : Mm) : List Int := kd :: (q ++ if kd = 2 then List.replicate 16 0 else enU was now o m 0 ++ enU was now o m 1)
section
variable {was now o : List Int} {m : Mm}
theorem enU_ok (s : Nat) : UOk (enU was now o m s) := chU_ok
theorem enK_r (s : Nat) : (enK was now o m s).r = m.r := by
  induction s with
  | zero => rfl
  | succ s ih => rw [enK, frP_r, ih]
theorem enK_good (g : goodM m = true) (s : Nat) : goodM (enK was now o m s) = true := by
  induction s with
  | zero => exact g
  | succ s ih => exact frP_good false _ ih chU_ok
theorem enK_ok (k : m.ok) (s : Nat) : (enK was now o m s).ok := by
  induction s with
  | zero => exact k
  | succ s ih => exact frP_ok false _ ih chU_ok
theorem enP_len {kd : Int} {q : List Int} (h : q.length = 8) : (enP kd q was now o m).length = 25 := by
  unfold enP
  split
  · simp [h]
  · have h1 := (enU_ok (was := was) (now := now) (o := o) (m := m) 0).l
    have h2 := (enU_ok (was := was) (now := now) (o := o) (m := m) 1).l
    simp [h, h1, h2]
theorem getD_cons_ (x : Int) (l : List Int) (i : Nat) : (x :: l).getD (i + 1) 0 = l.getD i 0 := by simp [List.getD_cons_succ]
theorem getD_app1 {l r : List Int} {i : Nat} (h : i < l.length) : (l ++ r).getD i 0 = l.getD i 0 := by
  simp only [List.getD_eq_getElem?_getD]; rw [List.getElem?_append_left h]
theorem getD_app2 {l r : List Int} {i : Nat} (h : l.length ≤ i) : (l ++ r).getD i 0 = r.getD (i - l.length) 0 := by
  simp only [List.getD_eq_getElem?_getD]; rw [List.getElem?_append_right h]
theorem sub_to {u : List Int} (h : UOk u) {j : Nat} (hj : j < 8) : 0 ≤ u.getD j 0 ∧ u.getD j 0 ≤ [59, 7, 9, 9, 9, 9, 15, 31].getD j 0 := by
  have e : j = 0 ∨ j = 1 ∨ (2 ≤ j ∧ j < 6) ∨ j = 6 ∨ j = 7 := by omega
  rcases e with rfl | rfl | ⟨h1, h2⟩ | rfl | rfl
  · exact h.a
  · exact h.g
  · have h3 := h.i j h1 h2
    have : j = 2 ∨ j = 3 ∨ j = 4 ∨ j = 5 := by omega
    rcases this with rfl | rfl | rfl | rfl <;> exact h3
  · exact h.s
  · exact h.v
theorem rest_at {q u v : List Int} (hq : q.length = 8) (hu : u.length = 8) (i : Nat) (kd : Int) : (kd :: (q ++ (u ++ v))).getD i 0 = if i = 0 then kd else if i < 9 then q.getD (i - 1) 0 else if i < 17 then u.getD (i - 9) 0 else v.getD (i - 17) 0 := by
  match i with
  | 0 => rfl
  | i + 1 =>
    rw [getD_cons_, if_neg (by omega)]
    by_cases h1 : i < 8
    · rw [if_pos (by omega), getD_app1 (by omega)]; rfl
    · rw [if_neg (by omega), getD_app2 (by omega), hq]
      by_cases h2 : i - 8 < 8
      · rw [if_pos (by omega), getD_app1 (by omega)]; congr 1
      · rw [if_neg (by omega), getD_app2 (by omega), hu]; congr 1
/-- Such a packet is one. -/
theorem pack_to {kd : Int} {q u v : List Int} (hq : q.length = 8) (hu : u.length = 8) (hk : 0 ≤ kd ∧ kd ≤ 2) (qb : ∀ j, j < 8 → 0 ≤ q.getD j 0 ∧ q.getD j 0 ≤ pkT.getD (j + 1) 0)
    (ub : ∀ j, j < 8 → 0 ≤ u.getD j 0 ∧ u.getD j 0 ≤ [59, 7, 9, 9, 9, 9, 15, 31].getD j 0) (vb : ∀ j, j < 8 → 0 ≤ v.getD j 0 ∧ v.getD j 0 ≤ [59, 7, 9, 9, 9, 9, 15, 31].getD j 0) : pkTo (kd :: (q ++ (u ++ v))) 25 = true := by
  unfold pkTo
  rw [List.all_eq_true]
  intro i hi
  have hi : i < 25 := List.mem_range.1 hi
  refine decide_eq_true ?_
  unfold pkOk
  rw [rest_at hq hu]
  by_cases h0 : i = 0
  · subst h0; exact hk
  by_cases h1 : i < 9
  · rw [if_neg h0, if_pos h1]
    have h := qb (i - 1) (by omega)
    rwa [show i - 1 + 1 = i by omega] at h
  have t1 : ∀ j, j < 8 → [59, 7, 9, 9, 9, 9, 15, 31].getD j 0 = pkT.getD (j + 9) 0 := by decide
  have t2 : ∀ j, j < 8 → [59, 7, 9, 9, 9, 9, 15, 31].getD j 0 = pkT.getD (j + 17) 0 := by decide
  by_cases h2 : i < 17
  · rw [if_neg h0, if_neg h1, if_pos h2]
    have h := ub (i - 9) (by omega)
    rwa [t1 _ (by omega), show i - 9 + 9 = i by omega] at h
  · rw [if_neg h0, if_neg h1, if_neg h2]
    have h := vb (i - 17) (by omega)
    rwa [t2 _ (by omega), show i - 17 + 17 = i by omega] at h
theorem qB_rng (i k : Int) (n : Nat) : 0 ≤ (qB i k n).1 ∧ (qB i k n).1 ≤ ((n - 1 : Nat) : Int) := by
  induction n with
  | zero => simp [qB]
  | succ n ih =>
    unfold qB
    split
    · simp
    · omega
theorem qV_to {j : Nat} (hj : j < 8) (k : Int) : 0 ≤ qV (j : Nat) k ∧ qV (j : Nat) k ≤ pkT.getD (j + 1) 0 := by
  have h1 : ∀ j, j < 8 → (((lvM (j : Nat)).toNat - 1 : Nat) : Int) ≤ pkT.getD (j + 1) 0 ∧ 0 ≤ pkT.getD (j + 1) 0 := by decide +kernel
  have h2 := h1 j hj
  unfold qV
  split
  · have h3 := qB_rng (j : Nat) k (lvM (j : Nat)).toNat
    omega
  · omega
theorem enQ_to (x : List Int) {j : Nat} (hj : j < 8) : 0 ≤ (enQ x).getD j 0 ∧ (enQ x).getD j 0 ≤ pkT.getD (j + 1) 0 := by
  unfold enQ aL
  split
  · rw [range_get _ hj]
    unfold aF
    exact qV_to hj _
  · have h1 : ∀ j, j < 8 → 0 ≤ Z8.getD j 0 ∧ Z8.getD j 0 ≤ pkT.getD (j + 1) 0 := by decide +kernel
    exact h1 j hj
theorem enQ_len (x : List Int) : (enQ x).length = 8 := by
  unfold enQ aL
  split
  · simp
  · rfl
theorem enP_to {kd : Int} (hk : 0 ≤ kd ∧ kd ≤ 2) (x : List Int) : pkTo (enP kd (enQ x) was now o m) 25 = true := by
  have hz : ∀ j, j < 8 → 0 ≤ (List.replicate 8 (0 : Int)).getD j 0 ∧ (List.replicate 8 (0 : Int)).getD j 0 ≤ [59, 7, 9, 9, 9, 9, 15, 31].getD j 0 := by decide +kernel
  unfold enP
  split
  · rw [show List.replicate 16 (0 : Int) = List.replicate 8 0 ++ List.replicate 8 0 from rfl]
    exact pack_to (enQ_len x) (by simp) hk (fun j hj => enQ_to x hj) hz hz
  · exact pack_to (enQ_len x) (enU_ok 0).l hk (fun j hj => enQ_to x hj) (fun j hj => sub_to (enU_ok 0) hj) (fun j hj => sub_to (enU_ok 1) hj)
end
end Go.Proofs.YthoiikkjjaldnaaDoor

/- The whole answer of Encode, in plain words. -/
namespace Go.Proofs.YthoiikkjjaldnaaDoor
set_option linter.unusedVariables false
set_option linter.unusedSimpArgs false
set_option maxRecDepth 100000
open Go.RowKit

/-- A coder's own memory: the high pass's four numbers, 120 samples, the synthesis memory. -/
structure En where
  h : List Int
  x : List Int
  m : Mm
structure En.ok (e : En) : Prop where
  h : e.h.length = 4
  x : e.x.length = 120
  m : e.m.ok
/-- What the high pass answers of the samples: its four numbers, the samples, whether it did. -/
def enHi (e : En) (s : List Int) : List Int × List Int × Bool := hiA s (e.h.getD 0 0) (e.h.getD 1 0) (e.h.getD 2 0) (e.h.getD 3 0) 80
/-- The samples that are kept, these moved up. -/
def enX (e : En) (s : List Int) : List Int := e.x.drop 80 ++ (enHi e s).2.1
def encErr (e : En) (s : List Int) : Int :=
  if s.length = 80 then (if goodM e.m = true then (if (enHi e s).2.2 = true then errOf (all16 (enX e s)) else 2) else 2) else 1
/-- The packet. -/
def enPk (e : En) (s : List Int) (reset : Bool) : List Int :=
  enP (enKd reset (enHi e s).2.1) (enQ (enX e s)) (enM0 reset e.m).r (enNow (enX e s)) (enHi e s).2.1 (enM0 reset e.m)
def enBs (e : En) (s : List Int) (reset : Bool) : List Int := if encErr e s = 0 then pkBytes (enPk e s reset) else []
def enY (e : En) (s : List Int) (reset : Bool) : List Int := if encErr e s = 0 then frO e.m (enPk e s reset) else []
def enE (e : En) (s : List Int) (reset : Bool) : En :=
  if encErr e s = 0 then ⟨(enHi e s).1, enX e s, frM e.m (enPk e s reset)⟩ else ⟨List.replicate 4 0, List.replicate 120 0, zeroM⟩
theorem enKd_rng (reset : Bool) (o : List Int) : 0 ≤ enKd reset o ∧ enKd reset o ≤ 2 := by
  unfold enKd
  split
  · omega
  · split <;> omega
theorem enPk_to (e : En) (s : List Int) (reset : Bool) : pkTo (enPk e s reset) 25 = true := enP_to (enKd_rng _ _) _
theorem enPk_len (e : En) (s : List Int) (reset : Bool) : (enPk e s reset).length = 25 := enP_len (enQ_len _)
end Go.Proofs.YthoiikkjjaldnaaDoor

/- The speaking session as a struct: its cells, its block, its fields set. -/
namespace Go.Proofs.YthoiikkjjaldnaaDoor
set_option linter.unusedVariables false
set_option linter.unusedSimpArgs false
set_option maxRecDepth 100000
open Go.RowKit

def En.cs (e : En) : List Value := ints e.h ++ (ints e.x ++ e.m.cs)
def En.ag (e : En) : Array Value := e.cs.toArray
def EB (w : World) (g : Nat) (e : En) : Prop := Blk w g 32 e.ag
section
variable {w : World} {g : Nat} {e : En}
theorem En.len (e : En) (k : e.ok) : e.cs.length = 226 := by unfold En.cs; simp only [List.length_append, ints_len, k.h, k.x, e.m.len k.m]
theorem En.size (e : En) (k : e.ok) : e.ag.size = 226 := by unfold En.ag; rw [List.size_toArray, e.len k]
theorem mem_one {m : Mm} : ∀ v ∈ m.cs, v.oneCell' = true := fun v hv => by
  have h := Array.all_eq_true_iff_forall_mem.1 m.one
  exact h v (by simpa [Mm.ag] using hv)
theorem En.one (e : En) : e.ag.all (·.oneCell') = true := by
  rw [Array.all_eq_true_iff_forall_mem]
  intro v hv
  have : v ∈ e.cs := by simpa [En.ag] using hv
  unfold En.cs at this
  rcases List.mem_append.1 this with h | h
  · exact ints_one _ _ h
  · rcases List.mem_append.1 h with h | h
    · exact ints_one _ _ h
    · exact mem_one _ h
theorem EB.H (h : EB w g e) : w.rangeAt g 0 (ints e.h) := range_of h [] (ints e.h) _ rfl rfl
theorem EB.X (h : EB w g e) (k : e.ok) : w.rangeAt g 4 (ints e.x) := range_of h (ints e.h) (ints e.x) e.m.cs rfl (by rw [ints_len, k.h])
theorem EB.M (h : EB w g e) (k : e.ok) : w.rangeAt g 124 e.m.cs := range_of h (ints e.h ++ ints e.x) e.m.cs [] (by unfold En.cs; simp only [List.append_assoc, List.append_nil]) (by simp only [List.length_append, ints_len, k.h, k.x])
theorem EB.src (h : EB w g e) (k : e.ok) (o : Nat) (ho : o ≤ 120) : w.rangeAt g (4 + o) (ints (e.x.drop o)) :=
  range_of h (ints e.h ++ ints (e.x.take o)) (ints (e.x.drop o)) e.m.cs (by
    unfold En.cs ints
    rw [List.append_assoc, ← List.append_assoc (List.map _ (e.x.take o)), ← List.map_append, List.take_append_drop])
    (by simp only [List.length_append, ints_len, k.h, List.length_take, k.x]; omega)
theorem EB.whole (h : EB w g e) : w.rangeAt g 0 e.cs := range_of h [] e.cs [] (by simp) rfl
theorem EB.frozen (h : EB w g e) (i : Nat) : w.frozen? ⟨g, i, none⟩ = false := Blk.frozen h i
theorem EB.new (w : World) (e : En) : EB (w.alloc (.cells e.ag 32)) w.heap.size e := Blk.new w _ _
theorem EB.there (h : EB w g e) (k : e.ok) : w.there g 0 226 := fun j hj => by
  refine ⟨?_, Blk.frozen h _⟩
  rw [Blk.cell h]
  have : 0 + j < e.ag.size := by rw [e.size k]; omega
  rw [Array.getElem?_eq_getElem this]; rfl
theorem EB.thereH (h : EB w g e) (k : e.ok) : w.there g 0 4 := fun j hj => h.there k j (by omega)
theorem EB.thereM (h : EB w g e) (k : e.ok) : w.there g 124 102 := fun j hj => by
  have h1 := h.there k (124 + j) (by omega)
  rwa [Nat.zero_add] at h1
theorem EB.set_h (h : EB w g e) (k : e.ok) (x : List Int) (hx : x.length = 4) : EB (w.setCells g 0 (ints x)) g { e with h := x } := by
  have h0 : Blk w g 32 ([] ++ (ints e.h ++ (ints e.x ++ e.m.cs))).toArray := h
  exact blk_setCells (ints x) (ints e.h) [] _ w h0 (by rw [ints_len, ints_len, hx, k.h])
theorem EB.set_m (h : EB w g e) (k : e.ok) (m : Mm) (hm : m.ok) : EB (w.setCells g 124 m.cs) g { e with m := m } := by
  have h0 : Blk w g 32 ((ints e.h ++ ints e.x) ++ (e.m.cs ++ [])).toArray := by
    have e1 : e.ag = ((ints e.h ++ ints e.x) ++ (e.m.cs ++ [])).toArray := by unfold En.ag En.cs; simp only [List.append_assoc, List.append_nil]
    rw [← e1]; exact h
  have h1 := blk_setCells m.cs e.m.cs _ _ w h0 (by rw [m.len hm, e.m.len k.m])
  have hl : (ints e.h ++ ints e.x).length = 124 := by simp only [List.length_append, ints_len, k.h, k.x]
  rw [hl] at h1
  have e2 : ({ e with m := m } : En).ag = ((ints e.h ++ ints e.x) ++ (m.cs ++ [])).toArray := by unfold En.ag En.cs; simp only [List.append_assoc, List.append_nil]
  unfold EB; rw [e2]; exact h1
/-- Cells laid over the samples. -/
theorem EB.splice (k : e.ok) (o : Nat) (ys zs : List Int) (hf : o + ys.length ≤ 120) (hz : zs = e.x.take o ++ ys ++ e.x.drop (o + ys.length)) :
    splice e.cs (4 + o) (ints ys) = ({ e with x := zs } : En).cs := by
  subst hz
  have h1 : e.cs.take (4 + o) = ints e.h ++ ints (e.x.take o) := by
    unfold En.cs
    rw [List.take_append, ints_len, k.h, List.take_of_length_le (by rw [ints_len, k.h]; omega), show 4 + o - 4 = o by omega, List.take_append_of_le_length (by rw [ints_len, k.x]; omega)]
    unfold ints
    rw [List.map_take]
  have h2 : e.cs.drop (4 + o + (ints ys).length) = ints (e.x.drop (o + ys.length)) ++ e.m.cs := by
    unfold En.cs
    rw [ints_len, List.drop_append, ints_len, k.h, List.drop_of_length_le (by rw [ints_len, k.h]; omega), List.nil_append, show 4 + o + ys.length - 4 = o + ys.length by omega, List.drop_append_of_le_length (by rw [ints_len, k.x]; omega)]
    unfold ints
    rw [List.map_drop]
  unfold Go.splice
  rw [h1, h2]
  unfold En.cs ints
  simp only [List.map_append, List.append_assoc]
end
theorem sizeE : (Tryd.prog.info? 32).map (·.size) = some 226 := by kernel_rfl
section
variable {w : World} {g : Nat} {e : En}
theorem wpList_storeE {ops : Array Oper} {rest : List Oper} {o : Oper} {a : Act} {Q : Exit → Act → World → Prop} (hgd : o.guard = none) (x y : Operand) (ho : o.op = .store 32 x y)
    (g : Nat) (e0 : En) (e : En) (hx : a.eval x = .pointer (some ⟨g, 0, none⟩)) (hy : a.eval y = .agg e.ag) (h : EB w g e0) (k0 : e0.ok) (k : e.ok)
    (kk : wpList Tryd.prog ops Q rest (a.put o.dst undef) (w.setRow g e.ag)) : wpList Tryd.prog ops Q (o :: rest) a w :=
  wpList_store_row hgd 32 x y ho g e.ag hx hy 32 e0.ag h (by rw [sizeE, e.size k]) (by rw [e.size k, e0.size k0]) e.one kk
theorem wpList_loadE {ops : Array Oper} {rest : List Oper} {o : Oper} {a : Act} {Q : Exit → Act → World → Prop} (hw : Region.wanted o (yielded ops a.tmps) = true) (x : Operand) (ho : o.op = .load 32 x)
    (g : Nat) (e : En) (hx : a.eval x = .pointer (some ⟨g, 0, none⟩)) (h : EB w g e) (k0 : e.ok)
    (kk : wpList Tryd.prog ops Q rest (a.put o.dst (.agg e.ag)) w) : wpList Tryd.prog ops Q (o :: rest) a w :=
  Go.BigFrame.wpList_want hw fun K hK => wp_load_row 32 x ho g hx 32 e.ag (0, 0) _ h Tryd.underlying32 rfl (by rw [sizeE, e.size k0]) (hK _ _ kk)
theorem EB.setRow {e0 : En} (h : EB w g e0) (e : En) : EB (w.setRow g e.ag) g e := setRow_heap w g _ _ _ _ h
theorem results_enc1 {fn : Func} {p : Tmp} (h : fn.results = #[.cell p 32]) (tmps : Array Value) (w : World) (g : Nat) (e : En)
    (hp : tmps.getD p undef = .pointer (some ⟨g, 0, none⟩)) (hg : EB w g e) (k : e.ok) :
    (results fn tmps).run Tryd.prog w = .ok (.agg e.ag) w := by
  have hp' : tmps[p]?.getD undef = .pointer (some ⟨g, 0, none⟩) := by simpa using hp
  have hr := run_loadVar_row (P := Tryd.prog) w g 32 32 e.ag (0, 0) _ hg Tryd.underlying32 rfl (by rw [sizeE, e.size k])
  simp [results, h, hp', asAddr, hr]
theorem results_enc4 {fn : Func} {p q r s : Tmp} (h : fn.results = #[.cell p 32, .tmp q, .tmp r, .tmp s]) (tmps : Array Value) (w : World) (g : Nat) (e : En)
    (hp : tmps.getD p undef = .pointer (some ⟨g, 0, none⟩)) (hg : EB w g e) (k : e.ok) :
    (results fn tmps).run Tryd.prog w = .ok (.tuple #[.agg e.ag, tmps.getD q undef, tmps.getD r undef, tmps.getD s undef]) w := by
  have hp' : tmps[p]?.getD undef = .pointer (some ⟨g, 0, none⟩) := by simpa using hp
  have hr := run_loadVar_row (P := Tryd.prog) w g 32 32 e.ag (0, 0) _ hg Tryd.underlying32 rfl (by rw [sizeE, e.size k])
  simp [results, h, hp', asAddr, hr]
end
def zeroEn : En := ⟨List.replicate 4 0, List.replicate 120 0, zeroM⟩
theorem zeroEn_ok : zeroEn.ok := ⟨rfl, rfl, zeroM_ok⟩
theorem zeroEn_ag : Tryd.zeroCells32 = zeroEn.ag := by kernel_rfl
theorem newzeroE (w : World) : EB (w.alloc (.cells Tryd.zeroCells32 32)) w.heap.size zeroEn := by rw [zeroEn_ag]; exact EB.new w zeroEn
end Go.Proofs.YthoiikkjjaldnaaDoor

/- Plain law: what Encode says and the other end hears; good sessions stay good. -/
namespace Go.Proofs.YthoiikkjjaldnaaDoor
set_option linter.unusedVariables false
set_option linter.unusedSimpArgs false
set_option maxRecDepth 100000
open Go.RowKit

/-- A session that is as it should be. -/
structure En.fit (e : En) : Prop where
  k : e.ok
  g : goodM e.m = true
  h : all16 e.h = true
  x : all16 e.x = true
theorem all16_iff {l : List Int} : all16 l = true ↔ ∀ x ∈ l, -32768 ≤ x ∧ x ≤ 32767 := by
  unfold all16
  rw [List.all_eq_true]
  refine ⟨fun h x hx => ?_, fun h x hx => ?_⟩
  · have := h x hx
    simpa [ok16] using this
  · exact ok16_yes (h x hx).1 (h x hx).2
theorem all16_drop {l : List Int} (h : all16 l = true) (n : Nat) : all16 (l.drop n) = true := all16_iff.2 fun x hx => all16_iff.1 h x (List.mem_of_mem_drop hx)
theorem all16_app {l r : List Int} (h : all16 l = true) (h2 : all16 r = true) : all16 (l ++ r) = true := all16_iff.2 fun x hx => by
  rcases List.mem_append.1 hx with h1 | h1
  · exact all16_iff.1 h x h1
  · exact all16_iff.1 h2 x h1
theorem hiN_all (l : List Int) (a b c d : Int) (k : Nat) : all16 (hiN l a b c d k).2 = true := by
  induction k with
  | zero => rfl
  | succ k ih =>
    simp only [hiN]
    refine all16_app ih (all16_iff.2 fun x hx => ?_)
    rw [List.mem_singleton.1 hx]
    exact s16_in _
theorem hiA_len (l : List Int) (a b c d : Int) (n : Nat) (h : (hiA l a b c d n).2.2 = true) : (hiA l a b c d n).2.1.length = n ∧ (hiA l a b c d n).1.length = 4 := by
  unfold hiA at *
  split
  · exact ⟨hiN_len _ _ _ _ _ _, rfl⟩
  · next h2 => rw [if_neg h2] at h; cases h
section
variable {e : En} {s : List Int}
theorem enHi_yes (f : e.fit) (hs : all16 s = true) : enHi e s = ([(hiN s (e.h.getD 0 0) (e.h.getD 1 0) (e.h.getD 2 0) (e.h.getD 3 0) 80).1.1, (hiN s (e.h.getD 0 0) (e.h.getD 1 0) (e.h.getD 2 0) (e.h.getD 3 0) 80).1.2.1,
    (hiN s (e.h.getD 0 0) (e.h.getD 1 0) (e.h.getD 2 0) (e.h.getD 3 0) 80).1.2.2.1, (hiN s (e.h.getD 0 0) (e.h.getD 1 0) (e.h.getD 2 0) (e.h.getD 3 0) 80).1.2.2.2], (hiN s (e.h.getD 0 0) (e.h.getD 1 0) (e.h.getD 2 0) (e.h.getD 3 0) 80).2, true) := by
  have b : ∀ i, -32768 ≤ e.h.getD i 0 ∧ e.h.getD i 0 ≤ 32767 := fun i => all16_at f.h i
  have h2 : ∀ i j, all16 [e.h.getD i 0, e.h.getD j 0] = true := fun i j => all16_iff.2 fun x hx => by
    simp only [List.mem_cons, List.not_mem_nil, or_false] at hx
    rcases hx with rfl | rfl
    · exact b i
    · exact b j
  unfold enHi hiA hiOk
  rw [hs, h2, h2]
  rfl
theorem enHi_fit (f : e.fit) (hs : all16 s = true) : (enHi e s).2.2 = true ∧ (enHi e s).2.1.length = 80 ∧ all16 (enHi e s).2.1 = true ∧ (enHi e s).1.length = 4 ∧ all16 (enHi e s).1 = true := by
  have b : ∀ i, -32768 ≤ e.h.getD i 0 ∧ e.h.getD i 0 ≤ 32767 := fun i => all16_at f.h i
  have h2 : ∀ i j, all16 [e.h.getD i 0, e.h.getD j 0] = true := fun i j => all16_iff.2 fun x hx => by
    simp only [List.mem_cons, List.not_mem_nil, or_false] at hx
    rcases hx with rfl | rfl
    · exact b i
    · exact b j
  have hi := hiN_in (l := s) hs (h2 0 1) (h2 2 3) 80
  have hl := hiN_len s (e.h.getD 0 0) (e.h.getD 1 0) (e.h.getD 2 0) (e.h.getD 3 0) 80
  have ha := hiN_all s (e.h.getD 0 0) (e.h.getD 1 0) (e.h.getD 2 0) (e.h.getD 3 0) 80
  rw [enHi_yes f hs]
  generalize hiN s (e.h.getD 0 0) (e.h.getD 1 0) (e.h.getD 2 0) (e.h.getD 3 0) 80 = z at *
  refine ⟨rfl, hl, ha, rfl, all16_iff.2 fun x hx => ?_⟩
  simp only [List.mem_cons, List.not_mem_nil, or_false] at hx
  rcases hx with rfl | rfl | rfl | rfl
  · exact hi.1
  · exact hi.2.1
  · exact hi.2.2.1
  · exact hi.2.2.2
theorem enX_fit (f : e.fit) (hs : all16 s = true) : (enX e s).length = 120 ∧ all16 (enX e s) = true := by
  obtain ⟨_, h2, h3, _, _⟩ := enHi_fit f hs
  unfold enX
  refine ⟨?_, all16_app (all16_drop f.x 80) h3⟩
  rw [List.length_append, List.length_drop, h2, f.k.x]
theorem enc_ok (f : e.fit) (hl : s.length = 80) (hs : all16 s = true) : encErr e s = 0 := by
  unfold encErr
  rw [if_pos hl, if_pos f.g, if_pos (enHi_fit f hs).1, (enX_fit f hs).2]; rfl
theorem enE_fit (f : e.fit) (hl : s.length = 80) (hs : all16 s = true) (r : Bool) : (enE e s r).fit := by
  have e0 := enc_ok f hl hs
  obtain ⟨_, _, _, h4, h5⟩ := enHi_fit f hs
  obtain ⟨x1, x2⟩ := enX_fit f hs
  unfold enE
  rw [if_pos e0]
  exact ⟨⟨h4, x1, frM_ok f.k.m (enPk_to _ _ _) (enPk_len _ _ _)⟩, frM_good f.g (enPk_to _ _ _) (enPk_len _ _ _), h5, x2⟩
theorem enE_m (f : e.fit) (hl : s.length = 80) (hs : all16 s = true) (r : Bool) : (enE e s r).m = frM e.m (enPk e s r) := by
  unfold enE; rw [if_pos (enc_ok f hl hs)]
theorem enBs_yes (f : e.fit) (hl : s.length = 80) (hs : all16 s = true) (r : Bool) : enBs e s r = pkBytes (enPk e s r) := if_pos (enc_ok f hl hs)
theorem enBs_len (f : e.fit) (hl : s.length = 80) (hs : all16 s = true) (r : Bool) : (enBs e s r).length = 15 := by rw [enBs_yes f hl hs, pkBytes_len (enPk_to _ _ _)]
theorem enY_yes (f : e.fit) (hl : s.length = 80) (hs : all16 s = true) (r : Bool) : enY e s r = frO e.m (enPk e s r) := if_pos (enc_ok f hl hs)
theorem enY_len (f : e.fit) (hl : s.length = 80) (hs : all16 s = true) (r : Bool) : (enY e s r).length = 80 := by rw [enY_yes f hl hs, frO_len]
/-- The other end, with whatever good memory. -/
theorem en_de (f : e.fit) (hl : s.length = 80) (hs : all16 s = true) (r : Bool) {m : Mm} (g : goodM m = true) :
    deE m (enBs e s r) = 0 ∧ deM m (enBs e s r) = frM m (enPk e s r) ∧ deY m (enBs e s r) = frO m (enPk e s r) := by
  obtain ⟨h1, h2⟩ := pk_round (enPk_to e s r) (enPk_len e s r)
  have e0 : deE m (enBs e s r) = 0 := by unfold deE; rw [if_pos g, enBs_yes f hl hs, h1]
  refine ⟨e0, ?_, ?_⟩
  · unfold deM; rw [if_pos e0, enBs_yes f hl hs, h2]
  · unfold deY; rw [if_pos e0, enBs_yes f hl hs, h2]
/-- In step. -/
theorem en_sync (f : e.fit) (hl : s.length = 80) (hs : all16 s = true) (r : Bool) :
    deE e.m (enBs e s r) = 0 ∧ deM e.m (enBs e s r) = (enE e s r).m ∧ deY e.m (enBs e s r) = enY e s r := by
  obtain ⟨h1, h2, h3⟩ := en_de f hl hs r f.g
  exact ⟨h1, by rw [h2, enE_m f hl hs], by rw [h3, enY_yes f hl hs]⟩
end
/-- At first. -/
def enB : En := ⟨List.replicate 4 0, List.replicate 120 0, freshM⟩
theorem enB_fit : enB.fit := ⟨⟨rfl, by simp [enB], freshM_ok⟩, fresh_good, by decide, by decide⟩
end Go.Proofs.YthoiikkjjaldnaaDoor

/- The walk of the closure that gets bits out of bytes. -/
namespace Go.Proofs.YthoiikkjjaldnaaDoor
set_option linter.unusedVariables false
set_option linter.unusedSimpArgs false
set_option maxRecDepth 100000
open Go.RowKit

theorem and1b {y : Nat} (hy : y < 256) : bits BinOp.and IntKind.u8 (y : Int) 1 = ((y % 2 : Nat) : Int) := by
  have h : (BitVec.ofInt 8 (y : Int) &&& BitVec.ofInt 8 1).toNat = y % 2 := by
    rw [BitVec.toNat_and, BitVec.toNat_ofInt, show (BitVec.ofInt 8 1).toNat = 2 ^ 1 - 1 from by decide, Nat.and_two_pow_sub_one_eq_mod]
    omega
  show IntKind.u8.wrap ((BitVec.ofInt 8 (y : Int) &&& BitVec.ofInt 8 1).toNat : Int) = _
  rw [h, IntKind.wrap_u8]
  omega
theorem or1 {x u : Nat} (hx : x < 1000000) (hu : u < 2) : bits BinOp.or IntKind.i64 ((x * 2 : Nat) : Int) (u : Int) = ((x * 2 + u : Nat) : Int) := by
  have e : x * 2 + u = x * 2 ||| u := by
    have h1 := Nat.shiftLeft_add_eq_or_of_lt (a := x) (b := u) (i := 1) (by omega)
    rw [Nat.shiftLeft_eq] at h1
    exact h1
  have h : (BitVec.ofInt 64 ((x * 2 : Nat) : Int) ||| BitVec.ofInt 64 (u : Int)).toNat = x * 2 + u := by
    rw [BitVec.toNat_or, BitVec.toNat_ofInt, BitVec.toNat_ofInt, e]
    congr 1 <;> omega
  show IntKind.i64.wrap ((BitVec.ofInt 64 ((x * 2 : Nat) : Int) ||| BitVec.ofInt 64 (u : Int)).toNat : Int) = _
  rw [h, IntKind.wrap_i64]
  omega
/-- What the unpacking keeps: the bytes, their variable, the place. -/
structure Ust (gB gA : Nat) (A : Option Addr) (c : Nat) (xs : List Int) (n : Nat) (W : World) : Prop where
  R : Rb W gB A xs
  B : Blk W gB 39 #[.slice A 15 c]
  A : Blk W gA 3 #[.int .i64 (n : Nat)]
  l1 : gB < gA
section
variable {gB gA c n : Nat} {A : Option Addr} {xs : List Int} {W W' : World}
theorem Ust.below (s : Ust gB gA A c xs n W) (hb : Below W.heap.size W W') : Ust gB gA A c xs n W' := ⟨s.R.below (hb.mono (Nat.le_of_lt (Blk.lt s.B))), Blk.below' s.B hb, Blk.below' s.A hb, s.l1⟩
theorem Ust.drewN (s : Ust gB gA A c xs n W) (k : Nat) : Ust gB gA A c xs n (W.drewN k) := ⟨s.R, s.B, s.A, s.l1⟩
theorem Ust.put (s : Ust gB gA A c xs n W) (m : Nat) : Ust gB gA A c xs m (W.setCell ⟨gA, 0, none⟩ (.int .i64 (m : Nat))) := by
  have h1 := s.l1
  refine ⟨s.R.below ((Below.refl _ _).setCell (p := ⟨gA, 0, none⟩) (by show gB ≤ gA; omega) _), Blk.far s.B (p := ⟨gA, 0, none⟩) (by show gB ≠ gA; omega) _, ?_, h1⟩
  exact Blk.set_ s.A 0 (.int .i64 (m : Nat))
/-- A block far from the place is written. -/
theorem Ust.far (s : Ust gB gA A c xs n W) {p : Addr} (h1 : gB < p.block) (h2 : gA ≠ p.block) (v : Value) : Ust gB gA A c xs n (W.setCell p v) :=
  ⟨s.R.below ((Below.refl _ _).setCell (by omega) _), Blk.far s.B (by omega) v, Blk.far s.A h2 v, s.l1⟩
end
theorem TwoP.drewN {g h : Nat} {w w1 : World} (a : TwoP g h w w1) (k : Nat) : TwoP g h w (w1.drewN k) := ⟨a.os, a.tape, a.output, a.size, a.keep⟩
set_option maxHeartbeats 4000000 in
theorem get_any (gB gA c a n : Nat) (A : Option Addr) (xs : List Int) (w : World) (S : Ust gB gA A c xs a w) (hx : Byts xs) (hl : xs.length = 15) (hc : 15 ≤ c) (hn : n ≤ 6) (ha : a + n ≤ 112) :
    Calls Tryd.prog 72 #[.int .i64 n, .pointer (some ⟨gB, 0, none⟩), .pointer (some ⟨gA, 0, none⟩)] w
      (fun e w' => e = .returned (.int .i64 (gt (unV xs) a n : Nat)) ∧ Ust gB gA A c xs (a + n) w' ∧ TwoP gA gA w w') := by
  have S0 := hid S
  have HX := hid hx
  have HL := hid hl
  clear S hx hl
  go_enter Tryd.func72, Tryd.ntmps72
  go_wp2
  go_loopw [5, 7] (fun vv iv wr => ∃ m : Nat, m ≤ n ∧ iv = .int .i64 m ∧ vv = .int .i64 (gt (unV xs) a m : Nat) ∧ Hid (Ust gB gA A c xs (a + m) wr) ∧ Hid (TwoP gA gA w wr)) (fun _ iv _ => n - (intOf iv).toNat)
  case atStart => exact ⟨0, by omega, rfl, by unfold gt; simp [Nat.mod_one], S0, hid (TwoP.refl _ _ _)⟩
  case round =>
    clear S0
    obtain ⟨m, hm, rfl, rfl, HS, HT⟩ := hrel
    by_cases hlt : m < n
    · obtain ⟨K, hA⟩ : ∃ K, K = a + m := ⟨_, rfl⟩
      rw [← hA] at HS
      obtain ⟨j, hj⟩ : ∃ j, j = K / 8 := ⟨_, rfl⟩
      obtain ⟨q, hq⟩ : ∃ q, q = 7 - K % 8 := ⟨_, rfl⟩
      obtain ⟨P, hP⟩ : ∃ P, P = 112 - a - (m + 1) := ⟨_, rfl⟩
      have hj14 : j < 14 := by omega
      have hq8 : q < 8 := by omega
      have hPe : 8 * (13 - j) + q = P := by omega
      obtain ⟨ad, rfl, had, c0⟩ := HS.out.R.at_ (k := j) (by rw [HL.out]; omega)
      have hd := nb_dig HX.out hj14
      have hxj := HX.out j
      have hbit := gt_bit (V := unV xs) (e := 8 * (13 - j)) hq8
      obtain ⟨e0, he0⟩ : ∃ e0, e0 = digE (unV xs) (8 * (13 - j)) := ⟨_, rfl⟩
      have he256 : e0 < 256 := by rw [he0]; exact digE_lt _ _
      have hxe : xs.getD j 0 = (e0 : Nat) := by
        have : e0 = (xs.getD j 0).toNat := by rw [he0]; exact hd
        omega
      rw [hxe] at c0
      rw [← he0, hPe] at hbit
      obtain ⟨y, hy⟩ : ∃ y, y = e0 / 2 ^ q := ⟨_, rfl⟩
      rw [← hy] at hbit
      have hy256 : y < 256 := by rw [hy]; exact Nat.lt_of_le_of_lt (Nat.div_le_self _ _) he256
      obtain ⟨u, hu⟩ : ∃ u, u = y % 2 := ⟨_, rfl⟩
      have hu2 : u < 2 := by omega
      have G1 := hid (show gt (unV xs) a (m + 1) = gt (unV xs) a m * 2 + u from by
        unfold gt
        rw [← hP, show 112 - a - m = P + 1 by omega, hu, hbit, Nat.shiftRight_succ]
        exact (gt_step _ _).symm)
      have hv64 : gt (unV xs) a m < 64 := Nat.lt_of_lt_of_le (gt_lt _ _ _) (show 2 ^ m ≤ 2 ^ 6 from Nat.pow_le_pow_right (by decide) (by omega))
      generalize gt (unV xs) a m = v at *
      have hyd : (e0 : Int) / 2 ^ q = (y : Nat) := by rw [hy]; simp
      have hand := and1b hy256
      rw [← hu] at hand
      have hor := or1 (x := v) (u := u) (by omega) hu2
      obtain ⟨v2, hv2⟩ : ∃ v2, v2 = v * 2 := ⟨_, rfl⟩
      obtain ⟨v3, hv3⟩ : ∃ v3, v3 = v * 2 + u := ⟨_, rfl⟩
      rw [← hv3] at hor G1
      rw [← hv2] at hor
      have hvd : (v : Int) * 2 = ((v2 : Nat) : Int) := by omega
      have hvw : IntKind.i64.wrap ((v2 : Nat) : Int) = ((v2 : Nat) : Int) := by rw [IntKind.wrap_i64]; omega
      clear hv2 hv3
      have hdj : (K : Int) / 8 = (j : Nat) := by omega
      have hdr : IntKind.i64.wrap (7 - (K : Int) % 8) = (q : Nat) := by rw [IntKind.wrap_i64]; omega
      have hqu : IntKind.u64.wrap ((q : Nat) : Int) = (q : Nat) := by rw [IntKind.wrap_u64]; omega
      have hui : IntKind.i64.wrap ((u : Nat) : Int) = (u : Nat) := by rw [IntKind.wrap_i64]; omega
      have q0 : (0 : Int) ≤ q := by omega
      have q64 : (q : Int) < 64 := by omega
      have j0 : (0 : Int) ≤ j := by omega
      have j15 : (j : Int) < 15 := by omega
      have cB : wr.cell? ⟨gB, 0, none⟩ = some (.slice (some ad) 15 c) := Blk.cell HS.out.B 0
      have cA : wr.cell? ⟨gA, 0, none⟩ = some (.int .i64 (K : Nat)) := Blk.cell HS.out.A 0
      have fA := Blk.frozen HS.out.A 0
      have hK1 : IntKind.i64.wrap ((K : Int) + 1) = (K : Int) + 1 := by rw [IntKind.wrap_i64]; omega
      have SN := hid ((HS.out.drewN 1).put (K + 1))
      have TN := hid ((HT.out.drewN 1).set1 0 (.int .i64 ((K + 1 : Nat) : Int)))
      have HA := hid hA
      clear hA hj hq hP hPe hd hxj hbit he0 hxe hy hu had
      go_wp2
      go_region
      go_wp2
      go_roundw
      case rel => exact ⟨m + 1, by omega, by go_num, by rw [G1.out], hid (by rw [show a + (m + 1) = K + 1 by have := HA.out; omega]; exact SN.out), TN⟩
      case measure => simp [intOf] <;> omega
    · obtain rfl : m = n := by omega
      go_wp2
      go_ret
      exact ⟨rfl, HS.out, HT.out⟩
end Go.Proofs.YthoiikkjjaldnaaDoor
