/- Texts that the law rests on, laid together: Memo, Row4, PkS, Mul64, CubeW. -/
import Derived.Test.YthoiikkjjaldnaaDoorZ8fe900
import Derived.Test.YthoiikkjjaldnaaDoorZ6b4648
import Derived.Deep.MidRow
import Derived.Test.YthoiikkjjaldnaaDoorZ10bfcc
import Derived.Test.YthoiikkjjaldnaaDoorZ7a1a29
import Derived.Test.YthoiikkjjaldnaaDoorRows
import Derived.WalkKit
import Derived.Shelf.Bits.Mul64
import Derived.Laws.Externs
/- The memory of a session as a struct: its cells, its block, its fields set. -/
namespace Go.Proofs.YthoiikkjjaldnaaDoor
set_option linter.unusedVariables false
set_option linter.unusedSimpArgs false
set_option maxRecDepth 100000
open Go.RowKit

/-- A memory. -/
structure Mm where
  r : List Int
  p : List Int
  e : List Int
  ga : Int
  pi : Int
  la : Int
  er : Int
  se : Int
  si : Bool
structure Mm.ok (m : Mm) : Prop where
  r : m.r.length = 8
  p : m.p.length = 8
  e : m.e.length = 80
def Mm.cs (m : Mm) : List Value := ints m.r ++ (ints m.p ++ (ints m.e ++ [.int .i64 m.ga, .int .i64 m.pi, .int .i64 m.la, .int .i64 m.er, .int .i64 m.se, .bool m.si]))
def Mm.ag (m : Mm) : Array Value := m.cs.toArray
def MB (w : World) (g : Nat) (m : Mm) : Prop := Blk w g 30 m.ag
/-- The fields but for the arrays. -/
def Mm.tl (m : Mm) : List Value := [.int .i64 m.ga, .int .i64 m.pi, .int .i64 m.la, .int .i64 m.er, .int .i64 m.se, .bool m.si]

section
variable {w w' : World} {g : Nat} {t : TypeId}
theorem range_of {cs : List Value} (h : Blk w g t cs.toArray) (A xs B : List Value) (he : cs = A ++ (xs ++ B)) {o : Nat} (ho : A.length = o) : w.rangeAt g o xs := fun j v hv => by
  subst he; subst ho
  rw [Blk.cell h]
  have hj := (List.getElem?_eq_some_iff.1 hv).1
  simp only [List.getElem?_toArray]
  rw [List.getElem?_append_right (by omega), Nat.add_sub_cancel_left, List.getElem?_append_left hj, hv]
theorem set_one {A B : List Value} {x y : Value} {o : Nat} (ho : A.length = o) : (A ++ x :: B).toArray.setIfInBounds o y = (A ++ y :: B).toArray := by
  subst ho
  simp
theorem blk_setCells : ∀ (vs xs A B : List Value) (w : World), Blk w g t (A ++ (xs ++ B)).toArray → vs.length = xs.length → Blk (w.setCells g A.length vs) g t (A ++ (vs ++ B)).toArray
  | [], [], A, B, w, h, _ => by simpa [World.setCells] using h
  | v :: vs, x :: xs, A, B, w, h, hl => by
    have h1 := Blk.set_ h A.length v
    rw [List.cons_append, set_one rfl] at h1
    have h2 := blk_setCells vs xs (A ++ [v]) B (w.setCell ⟨g, A.length, none⟩ v) (by simpa using h1) (by simpa using hl)
    simpa [World.setCells] using h2
theorem below_sc {B b : Nat} {a : World} (hb : B ≤ b) : ∀ (vs : List Value) (o : Nat) (w : World), Below B a w → Below B a (w.setCells b o vs)
  | [], _, _, h => h
  | v :: vs, o, w, h => below_sc hb vs (o + 1) _ (h.setCell hb v)
theorem blk_sc {k b : Nat} {tt : TypeId} {cs : Array Value} (hk : k ≠ b) : ∀ (vs : List Value) (o : Nat) (w : World), Blk w k tt cs → Blk (w.setCells b o vs) k tt cs
  | [], _, _, h => h
  | v :: vs, o, w, h => blk_sc hk vs (o + 1) _ (Blk.far h (p := ⟨b, o, none⟩) hk v)
end

section
variable {w w' : World} {g : Nat} {m : Mm}
theorem MB.R (h : MB w g m) (_ : m.ok) : w.rangeAt g 0 (ints m.r) := range_of h [] (ints m.r) _ rfl rfl
theorem MB.P (h : MB w g m) (k : m.ok) : w.rangeAt g 8 (ints m.p) := range_of h (ints m.r) (ints m.p) (ints m.e ++ m.tl) rfl (by rw [ints_len, k.r])
theorem MB.E (h : MB w g m) (k : m.ok) : w.rangeAt g 16 (ints m.e) := range_of h (ints m.r ++ ints m.p) (ints m.e) m.tl (by unfold Mm.cs Mm.tl; simp only [List.append_assoc]) (by simp only [List.length_append, ints_len, k.r, k.p])
theorem MB.T (h : MB w g m) (k : m.ok) : w.rangeAt g 96 m.tl := range_of h (ints m.r ++ (ints m.p ++ ints m.e)) m.tl [] (by unfold Mm.cs Mm.tl; simp only [List.append_assoc, List.append_nil]) (by simp only [List.length_append, ints_len, k.r, k.p, k.e])
theorem MB.cga (h : MB w g m) (k : m.ok) : w.cell? ⟨g, 96, none⟩ = some (.int .i64 m.ga) := h.T k 0 _ rfl
theorem MB.cpi (h : MB w g m) (k : m.ok) : w.cell? ⟨g, 97, none⟩ = some (.int .i64 m.pi) := h.T k 1 _ rfl
theorem MB.cla (h : MB w g m) (k : m.ok) : w.cell? ⟨g, 98, none⟩ = some (.int .i64 m.la) := h.T k 2 _ rfl
theorem MB.cer (h : MB w g m) (k : m.ok) : w.cell? ⟨g, 99, none⟩ = some (.int .i64 m.er) := h.T k 3 _ rfl
theorem MB.cse (h : MB w g m) (k : m.ok) : w.cell? ⟨g, 100, none⟩ = some (.int .i64 m.se) := h.T k 4 _ rfl
theorem MB.csi (h : MB w g m) (k : m.ok) : w.cell? ⟨g, 101, none⟩ = some (.bool m.si) := h.T k 5 _ rfl
theorem MB.whole (h : MB w g m) : w.rangeAt g 0 m.cs := range_of h [] m.cs [] (by simp) rfl
theorem MB.frozen (h : MB w g m) (i : Nat) : w.frozen? ⟨g, i, none⟩ = false := Blk.frozen h i
theorem MB.new (w : World) (m : Mm) : MB (w.alloc (.cells m.ag 30)) w.heap.size m := Blk.new w _ _
theorem Mm.len (m : Mm) (k : m.ok) : m.cs.length = 102 := by unfold Mm.cs; simp only [List.length_append, ints_len, k.r, k.p, k.e, List.length_cons, List.length_nil]
theorem Mm.size (m : Mm) (k : m.ok) : m.ag.size = 102 := by unfold Mm.ag; rw [List.size_toArray, m.len k]
theorem Mm.one (m : Mm) : m.ag.all (·.oneCell') = true := by
  rw [Array.all_eq_true_iff_forall_mem]
  intro v hv
  have : v ∈ m.cs := by simpa [Mm.ag] using hv
  unfold Mm.cs at this
  simp only [List.mem_append, List.mem_cons, List.not_mem_nil, or_false] at this
  rcases this with h | h | h | h | h | h | h | h | h
  · exact ints_one _ _ h
  · exact ints_one _ _ h
  · exact ints_one _ _ h
  all_goals (subst h; rfl)
theorem MB.there (h : MB w g m) (k : m.ok) : w.there g 0 102 := fun j hj => by
  refine ⟨?_, Blk.frozen h _⟩
  rw [Blk.cell h]
  have : 0 + j < m.ag.size := by rw [m.size k]; omega
  rw [Array.getElem?_eq_getElem this]; rfl
theorem MB.thereE (h : MB w g m) (k : m.ok) : w.there g 16 80 := fun j hj => by
  have h1 := h.there k (16 + j) (by omega)
  rwa [Nat.zero_add] at h1
theorem MB.set_e (h : MB w g m) (k : m.ok) (e : List Int) (he : e.length = 80) : MB (w.setCells g 16 (ints e)) g { m with e := e } := by
  have h0 : Blk w g 30 ((ints m.r ++ ints m.p) ++ (ints m.e ++ m.tl)).toArray := by
    have e1 : m.ag = ((ints m.r ++ ints m.p) ++ (ints m.e ++ m.tl)).toArray := by unfold Mm.ag Mm.cs Mm.tl; simp only [List.append_assoc]
    rw [← e1]; exact h
  have h1 := blk_setCells (ints e) (ints m.e) _ _ w h0 (by rw [ints_len, ints_len, he, k.e])
  have hl : (ints m.r ++ ints m.p).length = 16 := by simp only [List.length_append, ints_len, k.r, k.p]
  rw [hl] at h1
  have e2 : ({ m with e := e } : Mm).ag = ((ints m.r ++ ints m.p) ++ (ints e ++ m.tl)).toArray := by unfold Mm.ag Mm.cs Mm.tl; simp only [List.append_assoc]
  unfold MB; rw [e2]; exact h1
theorem MB.set_tl (h : MB w g m) (k : m.ok) (j : Nat) (v : Value) (m' : Mm) (hr : m'.r = m.r) (hp : m'.p = m.p) (he : m'.e = m.e) (ht : m'.tl = m.tl.set j v) (hj : j < 6) : MB (w.setCell ⟨g, 96 + j, none⟩ v) g m' := by
  have h1 := Blk.set_ h (96 + j) v
  have e0 : ∀ m : Mm, m.ag = ((ints m.r ++ (ints m.p ++ ints m.e)) ++ m.tl).toArray := fun m => by unfold Mm.ag Mm.cs Mm.tl; simp only [List.append_assoc]
  have hl : (ints m.r ++ (ints m.p ++ ints m.e)).length = 96 := by simp only [List.length_append, ints_len, k.r, k.p, k.e]
  have e1 : m.ag.setIfInBounds (96 + j) v = m'.ag := by
    rw [e0 m, e0 m', hr, hp, he, ht]
    simp only [List.setIfInBounds_toArray]
    rw [List.set_append_right _ _ (by omega), hl, Nat.add_sub_cancel_left]
  rw [e1] at h1
  exact h1
theorem MB.set_se (h : MB w g m) (k : m.ok) (x : Int) : MB (w.setCell ⟨g, 100, none⟩ (.int .i64 x)) g { m with se := x } := h.set_tl k 4 (.int .i64 x) _ rfl rfl rfl rfl (by omega)
theorem MB.set_er (h : MB w g m) (k : m.ok) (x : Int) : MB (w.setCell ⟨g, 99, none⟩ (.int .i64 x)) g { m with er := x } := h.set_tl k 3 (.int .i64 x) _ rfl rfl rfl rfl (by omega)
theorem Mm.ok.se {m : Mm} (k : m.ok) (x : Int) : ({ m with se := x } : Mm).ok := ⟨k.r, k.p, k.e⟩
theorem Mm.ok.er {m : Mm} (k : m.ok) (x : Int) : ({ m with er := x } : Mm).ok := ⟨k.r, k.p, k.e⟩
theorem Mm.ok.ex {m : Mm} (k : m.ok) {e : List Int} (he : e.length = 80) : ({ m with e := e } : Mm).ok := ⟨k.r, k.p, he⟩
end

theorem sizeM : (Tryd.prog.info? 30).map (·.size) = some 102 := by kernel_rfl

/-! A whole struct out of a block, into a block; as an answer. -/
section
variable {w : World} {g : Nat} {m : Mm}
theorem wpList_storeM {ops : Array Oper} {rest : List Oper} {o : Oper} {a : Act} {Q : Exit → Act → World → Prop} (hgd : o.guard = none) (x y : Operand) (ho : o.op = .store 30 x y)
    (g : Nat) (m0 : Mm) (m : Mm) (hx : a.eval x = .pointer (some ⟨g, 0, none⟩)) (hy : a.eval y = .agg m.ag) (h : MB w g m0) (k0 : m0.ok) (k : m.ok)
    (kk : wpList Tryd.prog ops Q rest (a.put o.dst undef) (w.setRow g m.ag)) : wpList Tryd.prog ops Q (o :: rest) a w :=
  wpList_store_row hgd 30 x y ho g m.ag hx hy 30 m0.ag h (by rw [sizeM, m.size k]) (by rw [m.size k, m0.size k0]) m.one kk
theorem wpList_loadM {ops : Array Oper} {rest : List Oper} {o : Oper} {a : Act} {Q : Exit → Act → World → Prop} (hw : Region.wanted o (yielded ops a.tmps) = true) (x : Operand) (ho : o.op = .load 30 x)
    (g : Nat) (m : Mm) (hx : a.eval x = .pointer (some ⟨g, 0, none⟩)) (h : MB w g m) (k0 : m.ok)
    (kk : wpList Tryd.prog ops Q rest (a.put o.dst (.agg m.ag)) w) : wpList Tryd.prog ops Q (o :: rest) a w :=
  Go.BigFrame.wpList_want hw fun K hK => wp_load_row 30 x ho g hx 30 m.ag (0, 0) _ h Tryd.underlying30 rfl (by rw [sizeM, m.size k0]) (hK _ _ kk)
theorem MB.setRow {m0 : Mm} (h : MB w g m0) (m : Mm) : MB (w.setRow g m.ag) g m := setRow_heap w g _ _ _ _ h
theorem results_mem1 {fn : Func} {p : Tmp} (h : fn.results = #[.cell p 30]) (tmps : Array Value) (w : World) (g : Nat) (m : Mm)
    (hp : tmps.getD p undef = .pointer (some ⟨g, 0, none⟩)) (hg : MB w g m) (k : m.ok) :
    (results fn tmps).run Tryd.prog w = .ok (.agg m.ag) w := by
  have hp' : tmps[p]?.getD undef = .pointer (some ⟨g, 0, none⟩) := by simpa using hp
  have hr := run_loadVar_row (P := Tryd.prog) w g 30 30 m.ag (0, 0) _ hg Tryd.underlying30 rfl (by rw [sizeM, m.size k])
  simp [results, h, hp', asAddr, hr]
theorem results_mem3 {fn : Func} {p q r : Tmp} (h : fn.results = #[.cell p 30, .tmp q, .tmp r]) (tmps : Array Value) (w : World) (g : Nat) (m : Mm)
    (hp : tmps.getD p undef = .pointer (some ⟨g, 0, none⟩)) (hg : MB w g m) (k : m.ok) :
    (results fn tmps).run Tryd.prog w = .ok (.tuple #[.agg m.ag, tmps.getD q undef, tmps.getD r undef]) w := by
  have hp' : tmps[p]?.getD undef = .pointer (some ⟨g, 0, none⟩) := by simpa using hp
  have hr := run_loadVar_row (P := Tryd.prog) w g 30 30 m.ag (0, 0) _ hg Tryd.underlying30 rfl (by rw [sizeM, m.size k])
  simp [results, h, hp', asAddr, hr]
end
def zeroM : Mm := ⟨List.replicate 8 0, List.replicate 8 0, List.replicate 80 0, 0, 0, 0, 0, 0, false⟩
theorem zeroM_ok : zeroM.ok := ⟨rfl, rfl, rfl⟩
theorem zeroM_ag : Tryd.zeroCells30 = zeroM.ag := by kernel_rfl
end Go.Proofs.YthoiikkjjaldnaaDoor

/- Slices of arrays of four numbers. -/
namespace Go.Proofs.YthoiikkjjaldnaaDoor
set_option linter.unusedVariables false
set_option linter.unusedSimpArgs false
set_option maxRecDepth 100000
open Go.RowKit

def cel4 (l : List (List Int)) : List Value := l.flatMap ints
theorem cel4_get : ∀ {l : List (List Int)} (_ : ∀ x ∈ l, x.length = 4) (i j : Nat) (_ : i < l.length) (_ : j < 4), (cel4 l)[4 * i + j]? = (ints (l.getD i []))[j]?
  | [], _, i, j, hi, _ => by simp at hi
  | x :: l, h, 0, j, _, hj => by
    have h2 := h x (List.mem_cons_self ..)
    unfold cel4
    rw [List.flatMap_cons, List.getElem?_append_left (by rw [ints_len]; omega)]
    simp
  | x :: l, h, i + 1, j, hi, hj => by
    have h2 := h x (List.mem_cons_self ..)
    have ih := cel4_get (l := l) (fun y hy => h y (List.mem_cons_of_mem _ hy)) i j (by simpa using hi) hj
    unfold cel4 at *
    rw [List.flatMap_cons, List.getElem?_append_right (by rw [ints_len]; omega), ints_len, h2, show 4 * (i + 1) + j - 4 = 4 * i + j by omega, ih]
    simp
/-- A slice of arrays that a call made. -/
def Own4 (w : World) (base : Nat) (A : Option Addr) (c : Nat) (l : List (List Int)) : Prop := w.ownsRow base 72 4 (.slice A l.length c) l.length (cel4 l) ∧ ∀ x ∈ l, x.length = 4
section
variable {w w' : World} {base c : Nat} {A : Option Addr} {l : List (List Int)}
theorem Own4.nil : Own4 w base none 0 [] := ⟨World.ownsRow_nil w base _ _, fun x hx => by simp at hx⟩
theorem Own4.lt (h : Own4 w base A c l) : ∀ a, A = some a → base ≤ a.block ∧ a.block < w.heap.size := fun a ha => by
  subst ha
  exact World.ownsRow.lt h.1 a.block rfl
theorem Own4.below (h : Own4 w base A c l) (hb : Below w.heap.size w w') : Own4 w' base A c l :=
  ⟨World.ownsRow.kept h.1 (row := none) ⟨hb.os, hb.tape, hb.output, hb.size, fun k hk _ => hb.block k hk⟩ (by cases A <;> simp [Value.ownBlock]), h.2⟩
theorem Own4.kept {row : Option Nat} (h : Own4 w base A c l) (hg : w.grownBy w' row) (hne : ∀ a, A = some a → some a.block ≠ row) : Own4 w' base A c l :=
  ⟨World.ownsRow.kept h.1 hg (by
    cases A with
    | none => exact .inl rfl
    | some a => exact .inr (hne a rfl)), h.2⟩
theorem Own4.ne_ {g : Nat} (h : Own4 w base A c l) (hg : g < base) : ∀ ad, A = some ad → ad.block ≠ g := fun ad e => by
  have := (h.lt ad e).1
  omega
theorem Own4.setRow {g : Nat} (h : Own4 w base A c l) (hg : g < base) (cs : Array Value) : Own4 (w.setRow g cs) base A c l :=
  h.kept (row := some g) ⟨rfl, rfl, rfl, by simp [World.setRow], fun i _ hn => setRow_other w g i cs (by intro e; subst e; exact hn rfl)⟩ (fun ad e h2 => by
    injection h2 with h2
    exact h.ne_ hg ad e h2)
theorem Own4.setC {g : Nat} (h : Own4 w base A c l) (hg : g < base) (i : Nat) (v : Value) : Own4 (w.setCell ⟨g, i, none⟩ v) base A c l :=
  h.kept (row := some g) ⟨rfl, rfl, rfl, by simp [World.setCell], fun j _ hn => Below.heap_setCell _ _ _ j (by simpa using hn)⟩ (fun ad e h2 => by
    injection h2 with h2
    exact h.ne_ hg ad e h2)
/-- The arrays of a slice read. -/
def Rs4 (w : World) (g : Nat) (l : List (List Int)) : Prop := g < w.heap.size ∧ ∀ i, i < l.length → w.rangeAt g (4 * i) (ints (l.getD i []))
theorem Own4.reads (h : Own4 w base A c l) (hn : 0 < l.length) : ∃ g, A = some ⟨g, 0, none⟩ ∧ Rs4 w g l := by
  have hr := Reads.of_own h.1
  rcases h.1.2 with ⟨_, h0⟩ | ⟨g, cap, cur, hv, _⟩
  · omega
  · injection hv with hA _ _
    subst hA
    obtain ⟨ad, e, hb, hc⟩ := hr.2 hn
    injection e with e
    subst e
    refine ⟨g, rfl, hb, fun i hi j v hv => ?_⟩
    have hj : j < 4 := by
      have := (List.getElem?_eq_some_iff.1 hv).1
      rw [ints_len] at this
      have h4 : (l.getD i []).length = 4 := by
        rw [List.getD_eq_getElem?_getD, List.getElem?_eq_getElem hi]
        exact h.2 _ (List.getElem_mem hi)
      omega
    have := hc (4 * i + j) v (by rw [cel4_get h.2 i j hi hj]; exact hv)
    rwa [add_zero'] at this
theorem Rs4.below {g : Nat} (h : Rs4 w g l) (hb : Below w.heap.size w w') : Rs4 w' g l :=
  ⟨Nat.lt_of_lt_of_le h.1 hb.size, fun i hi j v hv => (hb.cell (p := ⟨g, 4 * i + j, none⟩) h.1).trans (h.2 i hi j v hv)⟩
theorem Rs4.rowFar {g b : Nat} (h : Rs4 w g l) (hne : g ≠ b) (cs : Array Value) : Rs4 (w.setRow b cs) g l :=
  ⟨by simpa [World.setRow] using h.1, fun i hi j v hv => by
    have := h.2 i hi j v hv
    unfold World.cell? at *
    rw [setRow_other w b g cs hne]
    exact this⟩
end
end Go.Proofs.YthoiikkjjaldnaaDoor

/- The walks of both sums of bytes. -/
namespace Go.Proofs.YthoiikkjjaldnaaDoor
set_option linter.unusedVariables false
set_option linter.unusedSimpArgs false
set_option maxRecDepth 100000
open Go.RowKit

def sumY (xs : List Int) : Nat → Int
  | 0 => 90
  | n + 1 => sumY xs n + xs.getD n 0
def Byts (xs : List Int) : Prop := ∀ i, 0 ≤ xs.getD i 0 ∧ xs.getD i 0 ≤ 255
theorem sumY_range {xs : List Int} (h : Byts xs) (n : Nat) : 0 ≤ sumY xs n ∧ sumY xs n ≤ 90 + 255 * (n : Int) := by
  induction n with
  | zero => simp [sumY]
  | succ n ih =>
    have := h n
    simp only [sumY]
    push_cast
    omega
def chk (xs : List Int) : Int := sumY xs xs.length % 256
set_option maxHeartbeats 2000000 in
theorem packSum_any (A : Option Addr) (c n : Nat) (xs : List Int) (w : World) (hr : Rb w w.heap.size A xs) (hn : xs.length = n) (hl : n ≤ 1000) (hx : Byts xs) :
    Calls Tryd.prog 70 #[.slice A n c] w fun e w' => e = .returned (.int .u8 (chk xs)) ∧ w = w' := by
  have HC := hid (show chk xs = sumY xs n % 256 from by unfold chk; rw [hn])
  have HR := hid hr
  have HN := hid hn
  clear hr hn
  go_enter Tryd.func70, Tryd.ntmps70
  go_wp2
  go_loop [3, 8] (fun sv iv => ∃ k : Nat, k ≤ n ∧ iv = .int .i64 k ∧ sv = .int .i64 (sumY xs k)) (fun _ iv => n - (intOf iv).toNat)
  case atStart => exact ⟨0, by omega, rfl, rfl⟩
  case round =>
    obtain ⟨k, hk, rfl, rfl⟩ := hrel
    have sr := sumY_range hx k
    by_cases hlt : k < n
    · obtain ⟨ad, rfl, _, c0⟩ := HR.out.at_ (k := k) (by rw [HN.out]; exact hlt)
      have hb := hx k
      have ST := hid (show sumY xs (k + 1) = sumY xs k + xs.getD k 0 from rfl)
      generalize xs.getD k 0 = x at *
      generalize sumY xs k = s at *
      have k0 : (0 : Int) ≤ k := by omega
      have kn : (k : Int) < n := by omega
      have hw1 : IntKind.i64.wrap x = x := by rw [IntKind.wrap_i64]; omega
      have hw2 : IntKind.i64.wrap (s + x) = s + x := by rw [IntKind.wrap_i64]; omega
      go_wp2
      refine ⟨⟨k + 1, by omega, by go_num, by rw [ST.out]⟩, ?_⟩
      simp [intOf] <;> omega
    · obtain rfl : k = n := by omega
      generalize sumY xs k = s at *
      have hw : IntKind.u8.wrap s = s % 256 := IntKind.wrap_u8 s
      go_wp2
      go_ret
      exact ⟨by rw [HC.out]; rfl, rfl⟩
end Go.Proofs.YthoiikkjjaldnaaDoor

/- math/bits.Mul64 off the shelf, in plain declarations (as the kit's lay-plain writes them). -/
namespace Go.Proofs.YthoiikkjjaldnaaDoor
set_option linter.unusedVariables false
set_option linter.unusedSimpArgs false
set_option maxRecDepth 100000
open Go.Shelf
def lays264_ren : Go.Shelf.Ren := ⟨fun | 264 => 98 | n => n, fun | 53 => 155 | 46 => 106 | n => n, fun | n => n⟩
theorem lays264 : Go.Proofs.Lays.n264 Tryd.prog lays264_ren := {
  mixed := by kernel_rfl
  f264 := Tryd.func98.trans (congrArg some (by kernel_rfl))
  t46 := Tryd.underlying106
  a46 := Tryd.isAgg106
  z46 := Tryd.sizeOf106
  v46 := Tryd.zeroValue106
  t53 := Tryd.underlying155
  a53 := Tryd.isAgg155
  z53 := Tryd.sizeOf155
  v53 := Tryd.zeroValue155 }
theorem Mul64_any (x y : Nat) (hx : x < 18446744073709551616) (hy : y < 18446744073709551616) (w : World) :
    Calls Tryd.prog 98 #[.int .u64 x, .int .u64 y] w fun e w' => e = .returned (.tuple #[.int .u64 ((x * y / 18446744073709551616 : Nat) : Int), .int .u64 ((x * y % 18446744073709551616 : Nat) : Int)]) ∧ w' = w :=
  Any.bits_Mul64 lays264 x y hx hy w
end Go.Proofs.YthoiikkjjaldnaaDoor

/- basic.cube: three digits to base 2^64. -/
namespace Go.Proofs.YthoiikkjjaldnaaDoor
set_option linter.unusedVariables false
set_option linter.unusedSimpArgs false
set_option maxRecDepth 100000
open Go.RowKit

theorem cube_digits (c f : Nat) (hc : c < 18446744073709551616) (hf : f < 18446744073709551616) :
    c * c / 18446744073709551616 * f / 18446744073709551616 + (c * c % 18446744073709551616 * f / 18446744073709551616 + c * c / 18446744073709551616 * f % 18446744073709551616) / 18446744073709551616 = c * c * f / 340282366920938463463374607431768211456 ∧
    (c * c % 18446744073709551616 * f / 18446744073709551616 + c * c / 18446744073709551616 * f % 18446744073709551616) % 18446744073709551616 = c * c * f / 18446744073709551616 % 18446744073709551616 ∧
    c * c % 18446744073709551616 * f % 18446744073709551616 = c * c * f % 18446744073709551616 ∧
    c * c * f / 340282366920938463463374607431768211456 < 18446744073709551616 := by
  have h2 : c * c ≤ 18446744073709551615 * 18446744073709551615 := Nat.mul_le_mul (by omega) (by omega)
  have h3 : c * c * f ≤ 18446744073709551615 * 18446744073709551615 * 18446744073709551615 := Nat.mul_le_mul h2 (by omega)
  have hd := Nat.div_add_mod (c * c) 18446744073709551616
  have hN : c * c * f = 18446744073709551616 * (c * c / 18446744073709551616 * f) + c * c % 18446744073709551616 * f := by
    rw [← Nat.mul_assoc, ← Nat.add_mul, hd]
  clear hd h2
  generalize c * c / 18446744073709551616 * f = q at *
  generalize c * c % 18446744073709551616 * f = p at *
  generalize c * c * f = N at *
  omega


theorem Add64_run (x y : Int) (hx : 0 ≤ x) (hy : 0 ≤ y) (w : World) : (callFunc 99 #[.int .u64 x, .int .u64 y, .int .u64 0]).run Tryd.prog w =
    .ok (.value (.tuple #[.int .u64 ((x + y) % 18446744073709551616), .int .u64 ((x + y) / 18446744073709551616)])) w := by
  have h := run_add64 (P := Tryd.prog) x y 0 hx hy (by omega) (by omega) w
  rw [run_callFunc_extern (e := add64Entry) Tryd.func99 (by kernel_rfl) (by kernel_rfl) (by kernel_rfl) (by kernel_rfl) _ w, h, Int.add_zero]
  rfl

def Cubes (w : World) (n : Nat) (e : Ending) (w' : World) : Prop :=
  e = .returned (.agg #[.int .u64 ((n / 340282366920938463463374607431768211456 : Nat) : Int), .int .u64 ((n / 18446744073709551616 % 18446744073709551616 : Nat) : Int), .int .u64 ((n % 18446744073709551616 : Nat) : Int)]) ∧ Below w.heap.size w w'

set_option maxHeartbeats 2000000 in
theorem cube_any (c f : Nat) (hc : c < 18446744073709551616) (hf : f < 18446744073709551616) (w : World) :
    Calls Tryd.prog 94 #[.int .u64 c, .int .u64 f] w (Cubes w (c * c * f)) := by
  have hl : c * c % 18446744073709551616 < 18446744073709551616 := Nat.mod_lt _ (by omega)
  have hh : c * c / 18446744073709551616 < 18446744073709551616 := by
    have h2 : c * c ≤ 18446744073709551615 * 18446744073709551615 := Nat.mul_le_mul (by omega) (by omega)
    omega
  obtain ⟨D1, D2, D3, D4⟩ := cube_digits c f hc hf
  have M1 := fun w1 => Mul64_any c c hc hc w1
  have M2 := fun w1 => Mul64_any (c * c % 18446744073709551616) f hl hf w1
  have M3 := fun w1 => Mul64_any (c * c / 18446744073709551616) f hh hf w1
  have l1 : c * c % 18446744073709551616 * f % 18446744073709551616 < 18446744073709551616 := Nat.mod_lt _ (by omega)
  clear hl hh hc hf
  have FIN := fun (w1 : World) (e : Ending) => show e = _ ∧ Below w.heap.size w w1 → Cubes w (c * c * f) e w1 from id
  rw [← D1] at D4
  rw [← D1, ← D2, ← D3] at FIN
  clear D1 D2 D3
  generalize c * c % 18446744073709551616 * f % 18446744073709551616 = p0 at *
  generalize c * c % 18446744073709551616 * f / 18446744073709551616 = p1 at *
  generalize c * c / 18446744073709551616 * f % 18446744073709551616 = q0 at *
  generalize c * c / 18446744073709551616 * f / 18446744073709551616 = q1 at *
  generalize c * c % 18446744073709551616 = l at *
  generalize c * c / 18446744073709551616 = h at *
  have hA := Add64_run (p1 : Nat) (q0 : Nat) (by omega) (by omega)
  obtain ⟨m, hm⟩ : ∃ m : Nat, m = (p1 + q0) % 18446744073709551616 := ⟨_, rfl⟩
  obtain ⟨k, hk⟩ : ∃ k : Nat, k = (p1 + q0) / 18446744073709551616 := ⟨_, rfl⟩
  rw [show (((p1 : Nat) : Int) + (q0 : Nat)) % 18446744073709551616 = (m : Nat) from by omega, show (((p1 : Nat) : Int) + (q0 : Nat)) / 18446744073709551616 = (k : Nat) from by omega] at hA
  rw [← hk] at D4 FIN
  rw [← hm] at FIN
  have hw : IntKind.u64.wrap (((q1 : Nat) : Int) + (k : Nat)) = ((q1 + k : Nat) : Int) := by
    simp only [IntKind.wrap, IntKind.signed, IntKind.bits]
    simp
    omega
  have M1 := hid M1
  have M2 := hid M2
  have M3 := hid M3
  have FIN := hid FIN
  clear hm hk D4 l1
  go_enter Tryd.func94, Tryd.ntmps94
  go_wp2_with fail
  refine (M1.out _).mono ?_
  rintro e w1 ⟨rfl, rfl⟩
  go_wp2_with fail
  refine (M2.out _).mono ?_
  rintro e w1 ⟨rfl, rfl⟩
  go_wp2_with fail
  refine (M3.out _).mono ?_
  rintro e w1 ⟨rfl, rfl⟩
  go_wp2_with fail
  refine bodyPost_ret (v := .agg #[.int .u64 ((q1 + k : Nat) : Int), .int .u64 (m : Nat), .int .u64 (p0 : Nat)]) ?_ rfl (FIN.out _ _ ⟨rfl, (Below.refl _ _).alloc (Nat.le_refl _) _⟩)
  simp [results, Tryd.results94, go_sem]
end Go.Proofs.YthoiikkjjaldnaaDoor
