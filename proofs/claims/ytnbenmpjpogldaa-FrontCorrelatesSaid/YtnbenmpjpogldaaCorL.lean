/- The walk of the law FrontCorrelates. -/
import Derived.Test.YtnbenmpjpogldaaCorR
import Derived.Test.YtnbenmpjpogldaaEqA
import Derived.Test.YtnbenmpjpogldaaPastR
namespace Go.Proofs.Ytnbenmpjpogldaa
set_option linter.unusedVariables false
set_option linter.unusedSimpArgs false
set_option maxRecDepth 100000
open Go.RowKit

def corA (l : List Int) : List Int := if l.length = 120 ∧ all16 l = true then corF l (corG l) 9 else Z9
def corP (l : List Int) : Int := if l.length = 120 ∧ all16 l = true then corK l else 0
def CorOut (l : List Int) (w : World) (e : Ending) (w' : World) : Prop := e = .returned (.tuple #[.agg (agi (corA l)), .int .i64 (corP l), .int .i64 (corErr l)]) ∧ Below w.heap.size w w'
theorem corA_len (l : List Int) : (corA l).length = 9 := by
  unfold corA
  split
  · exact corF_len _ _ _
  · rfl
theorem cor_out_good {l : List Int} {w w' : World} {e : Ending} (h1 : l.length = 120) (h2 : all16 l = true) (h : CorFin l w e w') : CorOut l w e w' := by
  obtain ⟨rfl, hB⟩ := h
  refine ⟨?_, hB⟩
  unfold corA corP corErr
  rw [if_pos ⟨h1, h2⟩, if_pos ⟨h1, h2⟩, if_pos h1, h2]
  rfl
theorem cor_out_len {l : List Int} {w w' : World} {e : Ending} (h1 : l.length ≠ 120) (h : CorBad w 1 e w') : CorOut l w e w' := by
  obtain ⟨rfl, hB⟩ := h
  refine ⟨?_, hB⟩
  unfold corA corP corErr
  rw [if_neg (fun h => h1 h.1), if_neg (fun h => h1 h.1), if_neg h1]
theorem cor_out_not {l : List Int} {w w' : World} {e : Ending} (h1 : l.length = 120) (h2 : all16 l = false) (h : CorBad w 2 e w') : CorOut l w e w' := by
  obtain ⟨rfl, hB⟩ := h
  refine ⟨?_, hB⟩
  unfold corA corP corErr
  rw [if_neg (fun h => by rw [h2] at h; exact absurd h.2 (by decide)), if_neg (fun h => by rw [h2] at h; exact absurd h.2 (by decide)), if_pos h1, h2]
  rfl
theorem correlate_any (A : Option Addr) (c n : Nat) (l : List Int) (w : World) (hr : Rs w w.heap.size A l) (hn : l.length = n) : Calls Try.prog 4 #[.slice A n c] w (CorOut l w) := by
  by_cases h1 : n = 120
  · subst h1
    by_cases h2 : all16 l = true
    · exact (correlate_good A c 120 l w hr hn h2).mono fun e w' h => cor_out_good hn h2 (cor_fin (all16_at h2) h)
    · exact (correlate_not A c l w hr hn (by simpa using h2)).mono fun e w' h => cor_out_not hn (by simpa using h2) h
  · exact (correlate_len A c n w h1).mono fun e w' h => cor_out_len (by rw [hn]; exact h1) h
theorem refCorrelate_any (A : Option Addr) (c n : Nat) (l : List Int) (w : World) (hr : Rs w w.heap.size A l) (hn : l.length = n) : Calls Try.prog 6 #[.slice A n c] w (CorOut l w) := by
  by_cases h1 : n = 120
  · subst h1
    by_cases h2 : all16 l = true
    · exact (refCorrelate_good A c l w hr hn h2).mono fun e w' h => cor_out_good hn h2 h
    · exact (refCorrelate_not A c l w hr hn (by simpa using h2)).mono fun e w' h => cor_out_not hn (by simpa using h2) h
  · exact (refCorrelate_len A c n w h1).mono fun e w' h => cor_out_len (by rw [hn]; exact h1) h
theorem all16_zeros : all16 (List.replicate 120 0) = true := by decide +kernel
theorem corA_zeros : (corA (List.replicate 120 0)).getD 0 0 = 1073741824 := by
  unfold corA
  rw [if_pos ⟨List.length_replicate, all16_zeros⟩]
  exact cor_zeros_first

set_option maxHeartbeats 4000000 in
theorem walkFrontCorrelates (w : World) (A : Option Addr) (c : Nat) (xs : List Int) (hr : Rs w w.heap.size A xs) (_ : W64 xs) (hl : xs.length ≤ c) (hc : c * 8 ≤ 140737488351232) :
    Calls Try.prog 3 #[.slice A xs.length c] w fun e w' => e = .returned (.bool true) ∧ Below w.heap.size w w' := by
  obtain ⟨n, hn⟩ : ∃ n, xs.length = n := ⟨_, rfl⟩
  obtain ⟨ys, hy⟩ : ∃ ys, ys = corA xs := ⟨_, rfl⟩
  obtain ⟨p, hp⟩ : ∃ p, p = corP xs := ⟨_, rfl⟩
  obtain ⟨er, her⟩ : ∃ er, er = corErr xs := ⟨_, rfl⟩
  obtain ⟨zs, hz⟩ : ∃ zs, zs = corA (List.replicate 120 0) := ⟨_, rfl⟩
  have l1 : ys.length = 9 := by rw [hy]; exact corA_len _
  have l3 : zs.length = 9 := by rw [hz]; exact corA_len _
  have z0 : zs.getD 0 0 = 1073741824 := by rw [hz]; exact corA_zeros
  have K1 := fun W A1 c1 (h : Rs W W.heap.size A1 xs) => correlate_any A1 c1 n xs W h hn
  have K2 := fun W (h : Rs W W.heap.size A xs) => refCorrelate_any A c n xs W h hn
  have K3 := fun W A1 c1 (h : Rs W W.heap.size A1 (List.replicate 120 0)) => correlate_any A1 c1 120 (List.replicate 120 0) W h List.length_replicate
  unfold CorOut at K1 K2 K3
  rw [← hy, ← hp, ← her] at K1 K2
  rw [← hz] at K3
  obtain ⟨p3, hp3⟩ : ∃ p, p = corP (List.replicate 120 0) := ⟨_, rfl⟩
  obtain ⟨e3, he3⟩ : ∃ p, p = corErr (List.replicate 120 0) := ⟨_, rfl⟩
  rw [← hp3, ← he3] at K3
  have KI : ∀ W, Rs W W.heap.size A xs → Calls Try.prog 5 #[.slice A n c] W (fun e w' => ∃ A1 c1, e = .returned (.slice A1 n c1) ∧ Own w' W.heap.size A1 c1 xs ∧ Below W.heap.size W w') := fun W h => by
    have := ints_any A c xs W h (by omega)
    rw [hn] at this
    exact this.mono fun e w' ⟨A1, c1, h1, h2, h3⟩ => ⟨A1, c1, by rw [← hn]; exact h1, h2, h3⟩
  rw [hn]
  have heq := run_eql_agi Try.underlying23 ys l1
  have LY := hid l1
  have LZ := hid l3
  have Z0 := hid z0
  have KI := hid KI
  have K1 := hid K1
  have K2 := hid K2
  have K3 := hid K3
  have HR := hid hr
  clear hy hp her hz hp3 he3 l1 l3 z0 hr hn hl hc
  go_enter Try.func3, Try.ntmps3
  go_wp2_with fail
  refine (KI.out w HR.out).mono ?_
  rintro e w1 ⟨A1, c1, rfl, hO, hB⟩
  have O1 := hid hO.reads
  have B1 := hid hB
  clear hO hB
  go_wp2_with fail
  refine (K1.out w1 A1 c1 O1.out).mono ?_
  rintro e w2 ⟨rfl, hB⟩
  have X2 := hid (IB.stored w2 23 Z9 ys)
  have L2 := hid ((B1.out.trans (hB.mono B1.out.size)).trans ((below_stored w2 (.cells (agi Z9) 23) (agi ys)).mono (Nat.le_trans B1.out.size hB.size)))
  clear hB B1 O1
  go_wp2_with (refine wpList_storeI rfl 23 (.tmp 3) (.tmp 16) rfl _ 23 Z9 ys 9 rfl rfl (IB.new w2 23 Z9) size9c rfl LY.out ?_)
  refine (K2.out _ ((HR.out.below L2.out).more L2.out.size)).mono ?_
  rintro e w3 ⟨rfl, hB⟩
  have X3 := hid (Blk.stored (c2 := agi ys) (Blk.below' X2.out hB) (.cells (agi Z9) 23))
  have Y3 := hid (IB.stored w3 23 Z9 ys)
  have L3 := hid ((L2.out.trans (hB.mono L2.out.size)).trans ((below_stored w3 (.cells (agi Z9) 23) (agi ys)).mono (Nat.le_trans L2.out.size hB.size)))
  clear hB X2 L2
  obtain ⟨V, hV⟩ : ∃ V, V = (w3.alloc (.cells (agi Z9) 23)).setRow w3.heap.size (agi ys) := ⟨_, rfl⟩
  rw [← hV] at X3 Y3 L3
  go_wp2_with (first
    | (refine wpList_storeI rfl 23 (.tmp 6) (.tmp 22) rfl _ 23 Z9 ys 9 rfl rfl (IB.new w3 23 Z9) size9c rfl LY.out ?_; (try show wpList _ _ _ _ _ ((w3.alloc (.cells (agi Z9) 23)).setRow w3.heap.size (agi ys))); rw [← hV]; clear hV)
    | (at_make; refine wpList_makeI rfl _ _ rfl .i64 .i64 120 rfl rfl V.heap.size (by omega) (Nat.le_refl _) ?_; intro w4 hO hG; have X4 := hid (Blk.grown X3.out hG (by simp)); have Y4 := hid (Blk.grown Y3.out hG (by simp)); have L4 := hid (L3.out.grown hG L3.out.size (by simp)); have O4 := hid hO.reads; clear hO hG X3 Y3 L3))
  refine (K3.out w4 _ _ O4.out).mono ?_
  rintro e w5 ⟨rfl, hB⟩
  have X5 := hid (Blk.stored (c2 := agi zs) (Blk.below' X4.out hB) (.cells (agi Z9) 23))
  have Y5 := hid (Blk.stored (c2 := agi zs) (Blk.below' Y4.out hB) (.cells (agi Z9) 23))
  have Q5 := hid (IB.stored w5 23 Z9 zs)
  have L5 := hid ((L4.out.trans (hB.mono L4.out.size)).trans ((below_stored w5 (.cells (agi Z9) 23) (agi zs)).mono (Nat.le_trans L4.out.size hB.size)))
  clear hB X4 Y4 L4 O4
  obtain ⟨V5, hV⟩ : ∃ V5, V5 = (w5.alloc (.cells (agi Z9) 23)).setRow w5.heap.size (agi zs) := ⟨_, rfl⟩
  rw [← hV] at X5 Y5 Q5 L5
  have q0 := IB.cell Q5.out 0 (by rw [LZ.out]; omega)
  rw [Z0.out] at q0
  go_wp2_with (first
    | (refine wpList_storeI rfl 23 (.tmp 9) (.tmp 28) rfl _ 23 Z9 zs 9 rfl rfl (IB.new w5 23 Z9) size9c rfl LZ.out ?_; (try show wpList _ _ _ _ _ ((w5.alloc (.cells (agi Z9) 23)).setRow w5.heap.size (agi zs))); rw [← hV]; clear hV)
    | (refine wpList_loadI rfl 23 (.tmp 3) rfl _ 23 ys 9 _ rfl X5.out Try.underlying23 rfl size9c LY.out ?_)
    | (refine wpList_loadI rfl 23 (.tmp 6) rfl _ 23 ys 9 _ rfl Y5.out Try.underlying23 rfl size9c LY.out ?_))
  go_ret
  exact ⟨by simp, L5.out⟩
end Go.Proofs.Ytnbenmpjpogldaa
