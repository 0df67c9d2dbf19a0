/- The walk of FillBytes. -/
import Derived.Test.YtnbenmpjpogldaaDoorPkE
namespace Go.Proofs.YtnbenmpjpogldaaDoor
set_option linter.unusedVariables false
set_option linter.unusedSimpArgs false
set_option maxRecDepth 100000
open Go.RowKit

theorem below_same {B : Nat} {w wr : World} {g i : Nat} {t : TypeId} {cs : Array Value} {v : Value} (h : Below B w wr) (hb : Blk wr g t cs) (hi : cs[i]? = some v) : Below B w (wr.setCell ⟨g, i, none⟩ v) :=
  ⟨h.os, h.tape, h.output, by simpa [World.setCell] using h.size, fun k hk => by
    by_cases e : k = g
    · subst e
      have h1 := Blk.set_ hb i v
      have e2 : cs.setIfInBounds i v = cs := by
        have hlt : i < cs.size := by
          rcases Nat.lt_or_ge i cs.size with h3 | h3
          · exact h3
          · rw [Array.getElem?_eq_none h3] at hi; cases hi
        apply Array.ext
        · simp
        · intro j h3 h4
          rw [Array.getElem_setIfInBounds]
          split
          · rename_i e3
            subst e3
            rw [Array.getElem?_eq_getElem hlt] at hi
            exact (Option.some.inj hi).symm
          · rfl
      rw [e2] at h1
      exact h1.trans (hb.symm.trans (h.block k hk))
    · exact (Below.heap_setCell wr _ v k e).trans (h.block k hk)⟩
theorem infoBz : (Tryd.prog.info? 5).map (·.size) = some 1 := by kernel_rfl
theorem splice_bytes {X n : Nat} (hn : n ≤ 14) (hX : X < 2 ^ (8 * n)) : splice (bts (List.replicate 14 0)) (14 - n) (bts (byN X n n)) = bts (digL X) := by
  rw [← byN_all hn hX]
  unfold splice bts
  rw [List.length_map, byN_len, ← List.map_take, ← List.map_drop, List.map_append, List.take_replicate, List.drop_replicate]
  rw [show min (14 - n) 14 = 14 - n by omega, show 14 - (14 - n + n) = 0 by omega]
  simp
theorem rb_cells {w : World} {B : Nat} {ad : Addr} {xs : List Int} (h : Rb w B (some ad) xs) (hn : 0 < xs.length) : ∀ j u, (bts xs)[j]? = some u → w.cell? (ad.add j) = some u := by
  obtain ⟨a, e, _, hc⟩ := h.2 hn
  injection e with e
  subst e
  exact hc
set_option maxHeartbeats 4000000 in
theorem FillBytes_any (w : World) (c gb X : Nat) (hc : IntAt w c (X : Nat)) (hX : X < 2 ^ 112) (hb : Blk w gb 5 (bts (List.replicate 14 0)).toArray) :
    Calls Tryd.prog 21 #[.pointer (some ⟨c, 0, none⟩), .slice (some ⟨gb, 0, none⟩) 14 14] w fun e w' => e = .returned (.slice (some ⟨gb, 0, none⟩) 14 14) ∧ Blk w' gb 5 (bts (digL X)).toArray ∧ Below gb w w' := by
  have HC := hid hc
  have HB0 := hid hb
  have hgl := Blk.lt hb
  have hn14 := byC_le hX
  have hXn := byC_lt X
  have KB := hid (fun W (h : IntAt W c (X : Nat)) => Bytes_any W c X h hX)
  obtain ⟨n, hn⟩ : ∃ n, n = byC X := ⟨_, rfl⟩
  rw [← hn] at hn14 hXn KB
  have HXN := hid hXn
  clear hc hb hX hn hXn
  go_enter Tryd.func21, Tryd.ntmps21
  go_wp2
  go_loopw [9] (fun iv wr => ∃ i : Nat, i ≤ 14 ∧ iv = .int .i64 i ∧ Hid (Below w.heap.size w wr)) (fun iv _ => 14 - (intOf iv).toNat)
  case atStart => exact ⟨0, by omega, rfl, hid (Below.refl _ _)⟩
  case round =>
    obtain ⟨i, hi, rfl, HB⟩ := hrel
    have HG := hid (Blk.below' HB0.out HB.out)
    by_cases hlt : i < 14
    · have hv : (bts (List.replicate 14 0)).toArray[i]? = some (.int .u8 0) := by
        simp only [List.getElem?_toArray]
        rw [bts_get _ _ (by simp; exact hlt), List.getD_eq_getElem?_getD, List.getElem?_replicate, if_pos hlt]
        rfl
      have c0 : wr.cell? ⟨gb, i, none⟩ = some (.int .u8 0) := (Blk.cell HG.out i).trans hv
      have f0 := Blk.frozen HG.out i
      have NB := hid (below_same HB.out HG.out hv)
      have i0 : (0 : Int) ≤ i := by omega
      have i14 : (i : Int) < 14 := by omega
      clear hv
      go_wp2
      go_roundw
      case rel => exact ⟨i + 1, by omega, by go_num, NB⟩
      case measure => simp [intOf] <;> omega
    · obtain rfl : i = 14 := by omega
      try rw [show ((14 : Nat) : Int) = 14 from rfl]
      have HCr := hid (HC.out.below HB.out (Nat.le_refl _))
      rcases Nat.eq_zero_or_pos n with hz | hp
      · subst hz
        have hD := hid (show bts (digL X) = bts (List.replicate 14 0) from by
          have := splice_bytes hn14 HXN.out
          rw [← this]
          rfl)
        go_wp2_with (first
          | (go_at_call 35; (with_reducible refine (KB.out wr HCr.out).mono ?_); rintro e w1 ⟨g, rfl, hg, hO, hB⟩; have O1 := hid hO; have G1 := hid (Blk.below' HG.out hB); have B1 := hid (HB.out.trans (hB.mono HB.out.size)); have GG := hid hg; clear hO hB hg)
          | (refine wpList_copy_nothing rfl (.tmp 29) (.tmp 30) 31 31 rfl 5 Tryd.underlying31 infoBz (some ⟨gb, 0, none⟩) (some ⟨g, 0, none⟩) 0 0 0 0 rfl rfl rfl ?_))
        go_ret
        exact ⟨rfl, by rw [hD.out]; exact G1.out, B1.out.mono (Nat.le_of_lt hgl)⟩
      · have hle : decide ((n : Int) ≤ 14) = true := by simp; omega
        obtain ⟨lo, hlo⟩ : ∃ lo, lo = 14 - n := ⟨_, rfl⟩
        have hw1 : IntKind.i64.wrap (14 - (n : Int)) = (lo : Nat) := by rw [IntKind.wrap_i64]; omega
        have hlo14 : lo < 14 := by omega
        have hne : ¬ 14 = lo := by omega
        have l0 : (0 : Int) ≤ lo := by omega
        have l14 : (lo : Int) ≤ 14 := by omega
        have HLO := hid hlo
        clear hlo
        go_wp2_with (first
          | (go_at_call 35; (with_reducible refine (KB.out wr HCr.out).mono ?_); rintro e w1 ⟨g, rfl, hg, hO, hB⟩; have O1 := hid hO; have G1 := hid (Blk.below' HG.out hB); have B1 := hid (HB.out.trans (hB.mono HB.out.size)); have GG := hid hg; clear hO hB hg)
          | (refine wpList_copy_splice rfl (.tmp 29) (.tmp 30) 31 31 rfl 5 Tryd.underlying31 infoBz (some ⟨gb, lo, none⟩) (some ⟨g, 0, none⟩) (14 - lo) (14 - lo) n n rfl rfl gb lo (bts (List.replicate 14 0)) 5 G1.out (bts (byN X n n)) (by rw [bts_len, byN_len]; show n = min n (14 - lo); have := HLO.out; omega) (fun h0 => ⟨rfl, _, rfl, rb_cells O1.out.reads (by rw [bts_len] at h0; exact h0)⟩) (by rw [bts_len, bts_len, byN_len, List.length_replicate]; have := HLO.out; omega) (bts_one _) gb w (B1.out.mono (Nat.le_of_lt hgl)) (Nat.le_refl _) ?_; intro w2 hS hB2; have S2 := hid (show Blk w2 gb 5 (bts (digL X)).toArray from by rw [← splice_bytes hn14 HXN.out, ← HLO.out]; exact hS); have B2 := hid hB2; clear hS hB2))
        go_ret
        exact ⟨rfl, S2.out, B2.out⟩
end Go.Proofs.YtnbenmpjpogldaaDoor
