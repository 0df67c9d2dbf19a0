/- Texts that the law rests on, laid together: TopA, GuessR, MakeR, RingW. -/
import Derived.Test.YthoiikkjjaldnaaDoorZ6b4648
import Derived.WideShapes
import Derived.ChangeArms
import Derived.ProofKit
import Derived.OpenShut
import Derived.Lib.SmallJoins
import Derived.Deep.Fields
import Derived.Test.YthoiikkjjaldnaaDoorZ277b83
import Derived.Test.YthoiikkjjaldnaaDoorZc583e9
import Derived.Test.YthoiikkjjaldnaaDoorZe90ea5
import Derived.Test.YthoiikkjjaldnaaDoorZ7f3e4a
import Derived.Test.YthoiikkjjaldnaaDoorZ8ebc89
/- A run of frames, handed in. -/
namespace Go.Proofs.YthoiikkjjaldnaaDoor
set_option linter.unusedVariables false
set_option linter.unusedSimpArgs false
set_option maxRecDepth 100000
open Go.RowKit Go.ChangeShapes Go.WideShapes

/-- A frame of the run: samples, whether it is a refresh, what befalls it. -/
structure Tk where
  A : Option Addr
  c : Nat
  xs : List Int
  q : Bool
  f : Int
  a : Int
  k : Int
def Tk.cs (t : Tk) : List Value := [.slice t.A t.xs.length t.c, .bool t.q, .int .i64 t.f, .int .i64 t.a, .int .i64 t.k]
structure TkAt (w : World) (B : Nat) (p : Addr) (t : Tk) : Prop where
  b : p.block < B
  s : ∀ j v, t.cs[j]? = some v → w.cell? (p.add j) = some v
  r : Rs w B t.A t.xs
  l : t.xs.length ≤ 9223372036854775807
  f : -9223372036854775808 ≤ t.f ∧ t.f ≤ 9223372036854775807
  a : -9223372036854775808 ≤ t.a ∧ t.a ≤ 9223372036854775807
  k : -9223372036854775808 ≤ t.k ∧ t.k ≤ 9223372036854775807
/-- The n frames of a run. -/
def RT (w : World) (B : Nat) (A : Option Addr) (n : Nat) : Prop := ∀ i, i < n → ∃ ad t, A = some ad ∧ TkAt w B (ad.add (i * 5)) t
section
variable {w w' : World} {B B' n : Nat} {A : Option Addr} {p : Addr} {t : Tk}
theorem TkAt.below (h : TkAt w B p t) (hb : Below B w w') : TkAt w' B p t := ⟨h.b, fun j v hv => by rw [hb.cell (by rw [block_of_add]; exact h.b)]; exact h.s j v hv, h.r.below hb, h.l, h.f, h.a, h.k⟩
theorem RT.below (h : RT w B A n) (hb : Below B w w') : RT w' B A n := fun i hi => by
  obtain ⟨ad, t, e, ht⟩ := h i hi
  exact ⟨ad, t, e, ht.below hb⟩
theorem RT.less {m : Nat} (h : RT w B A n) (hm : m ≤ n) : RT w B A m := fun i hi => h i (by omega)
end
theorem has_wf' {k : IntKind} {n : Int} (h : (Lit.int k n).wf = true) : k.has n := by simpa [Lit.wf, IntKind.has] using h
section
variable {H : Type} {enc : TypeId × Value → H} {P : Program} {w : World}
theorem slice_reads0 {t e : TypeId} {k : IntKind} {A : Option Addr} {n c fuel : Nat} {x : DataW H × List MemPlace} (ht : P.underlying t = some (.slice e)) (he : P.underlying e = some (.int k)) (hc : P.cellsOf e = 1)
    (h : DataW.trod enc P w 0 (fun _ => true) true fuel t [.slice A n c] = some x) :
    ∃ xs : List Int, xs.length = n ∧ n ≤ 9223372036854775807 ∧ Reads w w.heap.size 1 A n (xs.map (Value.int k)) ∧ ∀ x ∈ xs, k.has x := by
  rcases open_ints ht he hc h with ⟨h1, _⟩ | ⟨a, len, cap, zs, h1, _, hl, hm, hlen, hx, hcell, hwf⟩
  · simp only [List.cons.injEq, Value.slice.injEq, and_true] at h1
    obtain ⟨rfl, rfl, rfl⟩ := h1
    exact ⟨[], rfl, by omega, Reads.none_, by intro x hx; simp at hx⟩
  · simp only [List.cons.injEq, Value.slice.injEq, and_true] at h1
    obtain ⟨rfl, rfl, rfl⟩ := h1
    simp only [if_true] at hlen
    have htl : (zs.take n).length = n := by rw [List.length_take]; omega
    refine ⟨zs.take n, htl, by unfold maxLen at hm; omega, ⟨by rw [List.length_map, htl, Nat.mul_one], fun hn => ⟨a, rfl, ?_, ?_⟩⟩, ?_⟩
    · have := World.block_lt_of_cell? w _ (hcell 0 (by omega))
      rwa [block_of_add] at this
    · intro j u hu
      have hj : j < n := by
        have := (List.getElem?_eq_some_iff.1 hu).1
        rwa [List.length_map, htl] at this
      rw [hcell j (by omega), ← hu, List.getElem?_map, List.getElem?_take, if_pos hj, List.getElem?_eq_getElem (by omega)]
      simp [List.getD_eq_getElem?_getD, (show j < zs.length by omega)]
    · intro x hx
      have := hwf x (List.mem_of_mem_take hx)
      simpa [Lit.wf, IntKind.has] using this
end
theorem list5 {α : Type} {l : List α} (h : l.length = 5) : ∃ a b c d e, l = [a, b, c, d, e] := by
  match l, h with
  | [a, b, c, d, e], _ => exact ⟨a, b, c, d, e, rfl⟩
theorem cellsTalk : Tryd.prog.cellsOf 38 = 5 := by kernel_rfl
/-- One frame's cells. -/
theorem talk_at {H : Type} {enc : TypeId × Value → H} {w : World} {fuel : Nat} {cs : List Value} {y : DataW H × List MemPlace} (h : DataW.trod enc Tryd.prog w 0 (fun _ => true) true fuel 38 cs = some y) (hl : cs.length = 5) :
    ∃ t : Tk, cs = t.cs ∧ Rs w w.heap.size t.A t.xs ∧ t.xs.length ≤ 9223372036854775807 ∧ (-9223372036854775808 ≤ t.f ∧ t.f ≤ 9223372036854775807) ∧ (-9223372036854775808 ≤ t.a ∧ t.a ≤ 9223372036854775807) ∧ (-9223372036854775808 ≤ t.k ∧ t.k ≤ 9223372036854775807) := by
  obtain ⟨v0, v1, v2, v3, v4, rfl⟩ := list5 hl
  obtain ⟨xs, n, _, hx, _, hlen, hg⟩ := DataW.trod_struct Tryd.underlying38 h
  match xs, hlen with
  | [y0, y1, y2, y3, y4], _ =>
    have c1 : Tryd.prog.cellsOf 3 = 1 := by kernel_rfl
    have c2 : Tryd.prog.cellsOf 4 = 1 := by kernel_rfl
    have c3 : Tryd.prog.cellsOf 36 = 1 := by kernel_rfl
    have g0 := hg 0 _ rfl
    have g1 := hg 1 _ rfl
    have g2 := hg 2 _ rfl
    have g3 := hg 3 _ rfl
    have g4 := hg 4 _ rfl
    try simp at g0
    try simp at g1
    try simp at g2
    try simp at g3
    try simp at g4
    rw [c3] at g0
    rw [c2] at g1
    rw [c1] at g2 g3 g4
    simp only [List.take_succ_cons, List.take_zero] at g0 g1 g2 g3 g4
    obtain ⟨q, e1, _⟩ := DataW.trod_bool Tryd.underlying4 g1
    obtain ⟨f, e2, _, w2⟩ := DataW.trod_int Tryd.underlying3 g2
    obtain ⟨a, e3, _, w3⟩ := DataW.trod_int Tryd.underlying3 g3
    obtain ⟨k, e4, _, w4⟩ := DataW.trod_int Tryd.underlying3 g4
    simp only [List.cons.injEq, and_true] at e1 e2 e3 e4
    obtain ⟨A, m, c, s0⟩ := Go.Joins.slice_form Tryd.underlying36 g0
    simp only [List.cons.injEq, and_true] at s0
    subst e1
    subst e2
    subst e3
    subst e4
    subst s0
    obtain ⟨zs, hz, l1, r1, _⟩ := slice_reads0 Tryd.underlying36 Tryd.underlying3 c1 g0
    subst hz
    exact ⟨⟨A, c, zs, q, f, a, k⟩, rfl, r1, l1, range_i64 (has_wf' w2), range_i64 (has_wf' w3), range_i64 (has_wf' w4)⟩
/-- The run. -/
theorem value_talks {H : Type} {enc : TypeId × Value → H} {w : World} {v : Value} {d : DataW H} {ps : List MemPlace}
    (h : DataW.Trod enc Tryd.prog w 0 (fun _ => true) true 22 v d ps) (hv : ∃ A n c, v = .slice A n c) :
    ∃ A n c, v = .slice A n c ∧ n ≤ c ∧ c ≤ 9223372036854775807 ∧ RT w w.heap.size A n := by
  obtain ⟨A, n, c, rfl⟩ := hv
  obtain ⟨fuel, hf⟩ := h
  have hf' : DataW.trod enc Tryd.prog w 0 (fun _ => true) true fuel 22 [.slice A n c] = some (d, ps) := by simpa [Value.cells] using hf
  refine ⟨A, n, c, rfl, ?_⟩
  rcases DataW.trod_slice Tryd.underlying22 hf' with ⟨h1, _⟩ | ⟨a, len, cap, elems, rest, m, _, h1, _, hb, hlc, hcm, hel, hcell, _, _⟩
  · simp only [List.cons.injEq, Value.slice.injEq, and_true] at h1
    obtain ⟨rfl, rfl, rfl⟩ := h1
    exact ⟨by omega, by omega, fun i hi => absurd hi (by omega)⟩
  · simp only [List.cons.injEq, Value.slice.injEq, and_true] at h1
    obtain ⟨rfl, rfl, rfl⟩ := h1
    refine ⟨hlc, by unfold maxLen at hcm; omega, fun i hi => ?_⟩
    have h2 := hcell i hi
    rw [cellsTalk] at h2
    rw [List.getElem?_eq_getElem (by omega)] at h2
    obtain ⟨cs, h3, h4⟩ := Option.bind_eq_some_iff.1 h2
    obtain ⟨_, h5, h6⟩ := World.cells?_some h3
    obtain ⟨t, rfl, r, l, f, aa, k⟩ := talk_at h4 h5
    have hbk := World.cells?_block h3 (by omega)
    exact ⟨a, t, rfl, hbk, fun j v hv => by
      have hj : j < 5 := by
        have := (List.getElem?_eq_some_iff.1 hv).1
        exact this
      rw [h6 j hj, hv], r, l, f, aa, k⟩
end Go.Proofs.YthoiikkjjaldnaaDoor

/- The walk of the reference's guess. -/
namespace Go.Proofs.YthoiikkjjaldnaaDoor
set_option linter.unusedVariables false
set_option linter.unusedSimpArgs false
set_option maxRecDepth 100000
open Go.RowKit

end Go.Proofs.YthoiikkjjaldnaaDoor

/- The walks of the reference's Make and Undo. -/
namespace Go.Proofs.YthoiikkjjaldnaaDoor
set_option linter.unusedVariables false
set_option linter.unusedSimpArgs false
set_option maxRecDepth 100000
open Go.RowKit

end Go.Proofs.YthoiikkjjaldnaaDoor

/- The walks of the ring: what a filter at rest makes of a single 4096. -/
namespace Go.Proofs.YthoiikkjjaldnaaDoor
set_option linter.unusedVariables false
set_option linter.unusedSimpArgs false
set_option maxRecDepth 100000
open Go.RowKit

def ringX (n : Nat) : List Int := (List.replicate n 0).set 0 4096
def ringB (n : Int) : Bool := decide (0 ≤ n ∧ n ≤ 80)
def ringL (a : List Int) (n : Int) : List Int := if ringB n then (if goodF a Z8 (ringX n.toNat) then makeN a Z8 (ringX n.toNat) n.toNat else []) else []
def ringErr (a : List Int) (n : Int) : Int := if ringB n then errOf (goodF a Z8 (ringX n.toNat)) else 1
theorem ringX_len (n : Nat) : (ringX n).length = n := by simp [ringX]
theorem ringB_no {n : Int} (h : n < 0 ∨ 80 < n) : ringB n = false := by unfold ringB; simp; omega
theorem ringB_yes {n : Int} (h1 : 0 ≤ n) (h2 : n ≤ 80) : ringB n = true := by unfold ringB; simp; omega
set_option maxHeartbeats 4000000 in
theorem synthRing_any (a : List Int) (n : Int) (w : World) (ha : a.length = 9) : Calls Tryd.prog 50 #[.agg (agi a), .int .i64 n] w (NewSE w (ringL a n) (ringErr a n)) := by
  by_cases h1 : n < 0 ∨ 80 < n
  · rw [show ringL a n = [] from by unfold ringL; rw [ringB_no h1]; rfl, show ringErr a n = 1 from by unfold ringErr; rw [ringB_no h1]; rfl]
    have FIN := hid (NewSE.none_ (er := 1) ((Below.refl _ w).alloc (Nat.le_refl _) (.cells (agi a) 69)))
    rcases h1 with h1 | h1
    · go_enter Tryd.func50, Tryd.ntmps50
      go_wp2
      go_ret2
      exact FIN.out
    · have h2 : ¬ n < 0 := by omega
      go_enter Tryd.func50, Tryd.ntmps50
      go_wp2
      go_ret2
      exact FIN.out
  · obtain ⟨N, rfl⟩ := Int.eq_ofNat_of_zero_le (show 0 ≤ n by omega)
    have hb : ringB (N : Nat) = true := ringB_yes (by omega) (by omega)
    have hN : N ≤ 80 := by omega
    obtain ⟨ys, hys⟩ : ∃ ys, ys = ringL a (N : Nat) := ⟨_, rfl⟩
    obtain ⟨er, her⟩ : ∃ er, er = ringErr a (N : Nat) := ⟨_, rfl⟩
    have K1 : ∀ W A, Rs W W.heap.size A (ringX N) → Calls Tryd.prog 48 #[.agg (agi a), .agg (agi Z8), .slice A N N] W (fun e w' => ∃ A3 c3 q, q.length = 8 ∧ e = .returned (.tuple #[.slice A3 ys.length c3, .agg (agi q), .int .i64 er]) ∧ Own w' W.heap.size A3 c3 ys ∧ Below W.heap.size W w') := fun W A h => by
      refine (synthMake_any a Z8 (ringX N) A N N W ha rfl h (ringX_len N) (by omega)).mono ?_
      rintro e w' ⟨A3, c3, h1, h2, h3⟩
      refine ⟨A3, c3, (if goodF a Z8 (ringX N) then newL Z8 (makeN a Z8 (ringX N) N) else Z8), ?_, ?_, ?_, h3⟩
      · split
        · exact newL_len _ _ rfl
        · rfl
      · rw [h1, hys, her, show ringL a (N : Nat) = (if goodF a Z8 (ringX N) then makeN a Z8 (ringX N) N else []) from by unfold ringL; rw [hb]; rfl, show ringErr a (N : Nat) = errOf (goodF a Z8 (ringX N)) from by unfold ringErr; rw [hb]; rfl]
      · rw [hys, show ringL a (N : Nat) = (if goodF a Z8 (ringX N) then makeN a Z8 (ringX N) N else []) from by unfold ringL; rw [hb]; rfl]; exact h2
    rw [← hys, ← her]
    clear hys her hb h1
    rw [z8_eq] at K1
    have K1' := hid K1
    clear K1
    have A0 := hid (IB.new w 69 a)
    have HA := hid ha
    clear ha
    have d1 : decide ((N : Int) < 0) = false := by simp <;> omega
    have d2 : decide (80 < (N : Int)) = false := by simp; omega
    by_cases h0 : N = 0
    · subst h0
      have K1 := hid (fun W A => K1'.out W A)
      clear K1'
      go_enter Tryd.func50, Tryd.ntmps50
      go_wp2_with (first
        | (at_make; refine wpList_makeI rfl _ _ rfl .i64 .i64 0 rfl rfl w.heap.size (by omega) (by simp) ?_; intro w1 hO hG; simp only [World.size_alloc] at hO; have O1 := hid (show Own w1 w.heap.size (some ⟨w.heap.size + 1, 0, none⟩) 0 (ringX 0) from hO); have A1 := hid (Blk.grown A0.out hG (by simp)); have B1 := hid (((Below.refl w.heap.size w).alloc (Nat.le_refl _) (.cells (agi a) 69)).grown hG (by simp) (by simp)); clear hO hG)
        | (refine wpList_loadI rfl 69 (.tmp 2) rfl _ 69 a 9 _ rfl A1.out Tryd.underlying69 rfl size9 HA.out ?_))
      refine (K1.out _ _ O1.out.reads).mono ?_
      rintro e w2 ⟨A3, c3, q, hq, rfl, hO, hB⟩
      have HQ := hid hq
      have O2 := hid hO
      have B2 := hid (B1.out.trans (hB.mono B1.out.size))
      clear hB hO hq
      go_wp2_with (refine wpList_storeI rfl 27 (.tmp 8) (.tmp 28) rfl _ 27 Z8 q 8 rfl rfl (IB.new w2 27 Z8) size8 rfl HQ.out ?_)
      go_ret2
      exact ⟨A3, c3, rfl, (O2.out.below (below_stored w2 (.cells (agi Z8) 27) _)).more B1.out.size, B2.out.trans ((below_stored w2 (.cells (agi Z8) 27) _).mono B2.out.size)⟩
    · have d3 : decide (0 < (N : Int)) = true := by simp; omega
      have i1 : (0 : Int) < N := by omega
      have i2 : 0 < N := by omega
      have KN := hid (fun W A h => K1'.out W A h)
      have HX := hid (show (List.replicate N 0).set 0 4096 = ringX N from rfl)
      clear K1' h0
      go_enter Tryd.func50, Tryd.ntmps50
      go_wp2_with (first
        | (at_make; refine wpList_makeI rfl _ _ rfl .i64 .i64 N rfl rfl w.heap.size (by omega) (by simp) ?_; intro w1 hO hG; simp only [World.size_alloc] at hO; have cc := hO.cell 0 (by simpa using i2); have ff := hO.frozen 0; have O1 := hid (show Own (w1.setCell ⟨w.heap.size + 1, 0, none⟩ (.int .i64 4096)) w.heap.size (some ⟨w.heap.size + 1, 0, none⟩) N (ringX N) from hO.set_ 0 (by simpa using i2) 4096); have A1 := hid (Blk.far (Blk.grown A0.out hG (by simp)) (p := ⟨w.heap.size + 1, 0, none⟩) (show w.heap.size ≠ w.heap.size + 1 by omega) (.int .i64 4096)); have B1 := hid ((((Below.refl w.heap.size w).alloc (Nat.le_refl _) (.cells (agi a) 69)).grown hG (by simp) (by simp)).setCell (p := ⟨w.heap.size + 1, 0, none⟩) (show w.heap.size ≤ w.heap.size + 1 by omega) (.int .i64 4096)); clear hO hG)
        | (refine wpList_loadI rfl 69 (.tmp 2) rfl _ 69 a 9 _ rfl A1.out Tryd.underlying69 rfl size9 HA.out ?_))
      refine (KN.out _ _ O1.out.reads).mono ?_
      rintro e w2 ⟨A3, c3, q, hq, rfl, hO, hB⟩
      have HQ := hid hq
      have O2 := hid hO
      have B2 := hid (B1.out.trans (hB.mono B1.out.size))
      clear hB hO hq
      go_wp2_with (refine wpList_storeI rfl 27 (.tmp 8) (.tmp 28) rfl _ 27 Z8 q 8 rfl rfl (IB.new w2 27 Z8) size8 rfl HQ.out ?_)
      go_ret2
      exact ⟨A3, c3, rfl, (O2.out.below (below_stored w2 (.cells (agi Z8) 27) _)).more B1.out.size, B2.out.trans ((below_stored w2 (.cells (agi Z8) 27) _).mono B2.out.size)⟩

end Go.Proofs.YthoiikkjjaldnaaDoor
