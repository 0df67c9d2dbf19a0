/- The walk of the law ConcealMixes. -/
import Derived.Test.YtniechgbbkkncaaMxR
import Derived.Test.YtniechgbbkkncaaKeepR
import Derived.Test.YtniechgbbkkncaaEqA
import Derived.Test.YtniechgbbkkncaaMakeI
import Derived.Test.YtniechgbbkkncaaMemo
import Derived.Deep.RegionHeld3
namespace Go.Proofs.Ytniechgbbkkncaa
set_option linter.unusedVariables false
set_option linter.unusedSimpArgs false
set_option maxRecDepth 100000
open Go.RowKit

/-- The box of the past, the slice beside, and both answers. -/
structure ML (w V : World) (h Y xs : List Int) (A1 A2 A : Option Addr) : Prop where
  J : IB V w.heap.size 40 h
  R1 : Rs V V.heap.size A1 Y
  R2 : Rs V V.heap.size A2 Y
  X : Rs V V.heap.size A xs
  B : Below w.heap.size w V
section
variable {w V V' : World} {h Y xs q : List Int} {A1 A2 A : Option Addr}
theorem ML.below (s : ML w V h Y xs A1 A2 A) (hb : Below V.heap.size V V') : ML w V' h Y xs A1 A2 A :=
  ⟨Blk.below' s.J hb, (s.R1.below hb).more hb.size, (s.R2.below hb).more hb.size, (s.X.below hb).more hb.size, s.B.trans (hb.mono s.B.size)⟩
theorem IB.rangeAt' {g : Nat} {t : TypeId} (s : IB w g t xs) : w.rangeAt g 0 (ints xs) := fun j v hv => by
  rw [Nat.zero_add, Blk.cell s j, ← hv]
  simp [agi]
theorem IB.there' {g n : Nat} {t : TypeId} (s : IB w g t xs) (hn : xs.length = n) : w.there g 0 n := fun j hj => by
  rw [Nat.zero_add]
  refine ⟨?_, Blk.frozen s j⟩
  rw [Blk.cell s j, agi_get xs j (by omega)]
  rfl
theorem IB.setCs {g : Nat} {t : TypeId} (s : IB w g t xs) (hl : q.length = xs.length) : IB (w.setCells g 0 (ints q)) g t q := by
  have h1 := blk_setCells (g := g) (t := t) (ints q) (ints xs) [] [] w (by have := s; unfold IB agi at this; simpa using this) (by rw [ints_len, ints_len, hl])
  unfold IB agi
  simpa using h1
theorem newz80 (w : World) : IB (w.alloc (.cells Try.zeroCells40 40)) w.heap.size 40 Z80 := by rw [z80_ag]; exact IB.new w _ _
end
theorem rgad {w : World} {b : Nat} {cs : List Value} (h : w.rangeAt b 0 cs) (o : Obj) : (w.alloc o).drew.rangeAt b 0 cs := (World.rangeAt_drew _ _ _ _).2 (World.rangeAt_alloc h o)
theorem mix0_any (W : World) (A : Option Addr) (c : Nat) (hr : Rs W W.heap.size A (List.replicate 40 0)) :
    Calls Try.prog 28 #[.agg Try.zeroCells40, .int .i64 20, .int .i64 0, .slice A 40 c] W (fun e w' => ∃ A3 c3, e = .returned (.tuple #[.slice A3 40 c3, .int .i64 0]) ∧ Below W.heap.size W w') := by
  rw [z80_ag]
  refine (mix_any Z80 (List.replicate 40 0) 20 0 A c 40 W (by simp [Z80]) hr (by simp) (by omega)).mono ?_
  rintro e w' ⟨A3, c3, h1, _, h3⟩
  obtain ⟨e1, e2⟩ := mx_good (h := Z80) (x := List.replicate 40 0) (lag := 20) (g := 0) (by decide)
  rw [e1, e2] at h1
  exact ⟨A3, c3, by simpa using h1, h3⟩

set_option maxHeartbeats 4000000 in
theorem walkConcealMixes (w : World) (h : List Int) (hh : h.length = 80) (hw64 : W64 h) (lag : Int) (_ : -9223372036854775808 ≤ lag ∧ lag ≤ 9223372036854775807) (g : Int) (_ : -9223372036854775808 ≤ g ∧ g ≤ 9223372036854775807) (A : Option Addr) (c : Nat) (xs : List Int) (hr : Rs w w.heap.size A xs) (hx64 : W64 xs) (hl : xs.length ≤ c) (hc : c * 8 ≤ 140737488351232) :
    Calls Try.prog 8 #[.agg (agi h), .int .i64 lag, .int .i64 g, .slice A xs.length c] w fun e w' => e = .returned (.bool true) ∧ Below w.heap.size w w' := by
  obtain ⟨n, hn⟩ : ∃ n, xs.length = n := ⟨_, rfl⟩
  obtain ⟨Y, hY⟩ : ∃ Y, Y = mxL h xs lag g n := ⟨_, rfl⟩
  obtain ⟨er, her⟩ : ∃ er, er = mxR lag g n := ⟨_, rfl⟩
  obtain ⟨q, hq⟩ : ∃ q, q = keepA h xs n := ⟨_, rfl⟩
  obtain ⟨ek, hek⟩ : ∃ ek, ek = keepE n := ⟨_, rfl⟩
  have hql : q.length = 80 := by rw [hq]; exact keepA_len hh hn
  have YL : Y.length ≤ 40 := by rw [hY]; unfold mxL; split <;> simp
  have K1 : ∀ W A1 c1, Rs W W.heap.size A1 xs → Calls Try.prog 28 #[.agg (ints h).toArray, .int .i64 lag, .int .i64 g, .slice A1 n c1] W (NewSE W (mxL h xs lag g n) (mxR lag g n)) := fun W A1 c1 hr => mix_any h xs lag g A1 c1 n W hh hr hn (by omega)
  have K2 := fun W (hr : Rs W W.heap.size A xs) => refMix_any h xs lag g A c n W hh hr hn (by omega) hw64 hx64
  have K3 : ∀ W A1 c1, Rs W W.heap.size A1 xs → Calls Try.prog 30 #[.agg (ints h).toArray, .slice A1 n c1] W (fun e w' => e = .returned (.tuple #[.agg (ints (keepA h xs n)).toArray, .int .i64 (keepE n)]) ∧ Below W.heap.size W w') := fun W A1 c1 hr => keep_any h xs A1 c1 n W hh hr hn (by omega)
  have K4 := fun W (hr : Rs W W.heap.size A xs) => refKeep_any h xs A c n W hh hr hn (by omega) hx64
  have KI : ∀ W, Rs W W.heap.size A xs → Calls Try.prog 15 #[.slice A n c] W (fun e w' => ∃ A1 c1, e = .returned (.slice A1 n c1) ∧ Own w' W.heap.size A1 c1 xs ∧ Below W.heap.size W w') := fun W h => by
    have := ints_any A c xs W h (by omega)
    rw [hn] at this
    exact this.mono fun e w' ⟨A1, c1, h1, h2, h3⟩ => ⟨A1, c1, by rw [← hn]; exact h1, h2, h3⟩
  unfold Keeps at K4
  rw [hn]
  rw [← hY, ← her] at K1 K2
  rw [← hq, ← hek] at K3 K4
  clear hY her hq hek
  have hI := IB.new w 40 h
  have hB := (Below.refl _ w).alloc (Nat.le_refl _) (.cells (agi h) 40)
  have hs : (w.alloc (.cells (agi h) 40)).heap.size = w.heap.size + 1 := by simp
  have hX := (hr.below hB).more (show w.heap.size ≤ (w.alloc (.cells (agi h) 40)).heap.size by simp)
  obtain ⟨W, hW⟩ : ∃ W, W = w.alloc (.cells (agi h) 40) := ⟨_, rfl⟩
  rw [← hW] at hI hB hs hX
  have HW := hid hW
  have rg : W.rangeAt w.heap.size 0 (ints h) := IB.rangeAt' hI
  have HI := hid hI
  have HB := hid hB
  have HX := hid hX
  have HXd := hid (show Rs W.drew W.drew.heap.size A xs from hX)
  have HS := hid hs
  have HN := hid hn
  have HH := hid hh
  have HQ := hid hql
  have HC := hid hc
  have HL := hid hl
  have HYL := hid YL
  have K1 := hid K1
  have K2 := hid K2
  have K3 := hid K3
  have K4 := hid K4
  have KI := hid KI
  have K5 := hid (fun W A c hr => mix0_any W A c hr)
  have heq := run_eql_agi Try.underlying40 q hql
  have hu80 := Try.underlying40
  have hi80 : (Try.prog.info? 40).map (·.size) = some (ints h).length := by rw [ints_len, hh]; exact size80k
  have hi80q : (Try.prog.info? 40).map (·.size) = some (ints q).length := by rw [ints_len, hql]; exact size80k
  have hlq : (ints q).length = 80 := by rw [ints_len, hql]
  have h1q : ∀ v ∈ ints q, v.oneCell' = true := ints_one q
  clear hI hB hs hX hW hn hh hql hc hl YL hr hx64 hw64
  rename_i K1r K2r K3r K4r KIr
  clear K1r K2r K3r K4r KIr
  go_enter Try.func8, Try.ntmps8
  go_wp2_with (rw [← HW.out])
  go_region_held3 (fun w' => w'.rangeAt w.heap.size 0 (ints h)) (first | assumption | go_keep) (first
    | (go_at_call 15; (with_reducible refine (KI.out W.drew HXd.out).mono ?_); rintro e w2 ⟨A1, c1, rfl, hO, hBx⟩; have L2 : Below W.heap.size W w2 := ((Below.refl W.heap.size W).drew).trans (hBx.mono (Nat.le_refl _)); have rg2 : w2.rangeAt w.heap.size 0 (ints h) := IB.rangeAt' (Blk.below' HI.out L2); have L2 := hid L2; have O2 := hid hO; clear hO hBx)
    | (go_at_call 28; (with_reducible refine (K1.out w2 A1 c1 O2.out.reads).mono ?_); rintro e w3 ⟨A3, c3, rfl, hO, hBx⟩; have L3 : Below W.heap.size W w3 := L2.out.trans (hBx.mono L2.out.size); have rg3 : w3.rangeAt w.heap.size 0 (ints h) := IB.rangeAt' (Blk.below' HI.out L3); have L3 := hid L3; have O3 := hid hO; clear hO hBx))
  rename_i hHeldZ
  clear hHeldZ
  clear rg rg2 rg3
  have M3 := hid (show ML w w3 h Y xs A3 none A ∨ True from .inr trivial)
  clear M3
  have J3 := hid (Blk.below' HI.out L3.out)
  have R3 := hid O3.out.reads
  have X3 := hid ((HX.out.below L3.out).more L3.out.size)
  have B3 := hid (HB.out.trans (L3.out.mono HB.out.size))
  clear O2 O3 L2 L3
  simp only [Exit.then]
  go_wp2_with (refine wpList_loadI rfl 40 (.tmp 4) rfl _ 40 h 80 _ rfl J3.out Try.underlying40 rfl size80k HH.out ?_)
  refine (K2.out w3 X3.out).mono ?_
  rintro e w4 ⟨A4, c4, rfl, hO, hB⟩
  have M4 := hid (show ML w w4 h Y xs A3 A4 A from ⟨Blk.below' J3.out hB, (R3.out.below hB).more hB.size, hO.reads, (X3.out.below hB).more hB.size, B3.out.trans (hB.mono B3.out.size)⟩)
  clear hO hB J3 R3 X3 B3 HI HX HXd HB HS
  have rg4 : w4.rangeAt w.heap.size 0 (ints h) := IB.rangeAt' M4.out.J
  have hlt4 : w.heap.size < w4.heap.size := Blk.lt M4.out.J
  go_wp2_with fail
  have HXe := hid (show Rs w4.drew w4.drew.heap.size A xs from M4.out.X)
  have HXf := hid (show Rs (w4.alloc (.cells Try.zeroCells40 40)).drew (w4.alloc (.cells Try.zeroCells40 40)).drew.heap.size A xs from (M4.out.X.below ((Below.refl _ w4).alloc (Nat.le_refl _) (.cells Try.zeroCells40 40))).more (by simp))
  go_region_held3 (fun w' => w'.rangeAt w.heap.size 0 (ints h)) (first | assumption | (with_reducible exact World.rangeAt_alloc (by assumption) _) | (with_reducible exact rgad (by assumption) _) | (exact World.rangeAt_setCells_apart (by assumption) _ _ _ (by left; omega)) | (exact World.rangeAt_setCells_apart (World.rangeAt_alloc (by assumption) _) _ _ _ (by left; omega)) | go_keep) (first
    | (go_at_call 15; (with_reducible refine (KI.out w4.drew HXe.out).mono ?_); rintro e w5 ⟨A5, c5, rfl, hO, hBx⟩; have L5 : Below w4.heap.size w4 w5 := ((Below.refl w4.heap.size w4).drew).trans (hBx.mono (Nat.le_refl _)); have s5 : w4.heap.size ≤ w5.heap.size := L5.size; have rg5 : w5.rangeAt w.heap.size 0 (ints h) := IB.rangeAt' (Blk.below' M4.out.J L5); have L5 := hid L5; have O5 := hid hO.reads; clear hO hBx)
    | (go_at_call 15; (with_reducible refine (KI.out (w4.alloc (.cells Try.zeroCells40 40)).drew HXf.out).mono ?_); rintro e w5 ⟨A5, c5, rfl, hO, hBx⟩; have L5 : Below w4.heap.size w4 w5 := (((Below.refl w4.heap.size w4).alloc (Nat.le_refl _) (.cells Try.zeroCells40 40)).drew).trans (hBx.mono (by simp)); have s5 : w4.heap.size ≤ w5.heap.size := L5.size; have rg5 : w5.rangeAt w.heap.size 0 (ints h) := IB.rangeAt' (Blk.below' M4.out.J L5); have L5 := hid L5; have O5 := hid hO.reads; have Z5 := hid (show IB w5 w4.heap.size 40 Z80 from Blk.below' (Blk.drew (newz80 w4)) hBx); clear hO hBx)
    | (go_at_call 30; (with_reducible refine (K3.out (w5.alloc (.cells Try.zeroCells40 40)) A5 c5 ((O5.out.below ((Below.refl _ w5).alloc (Nat.le_refl _) (.cells Try.zeroCells40 40))).more (by simp))).mono ?_); rintro e w6 ⟨rfl, hBx⟩; have L6 : Below w4.heap.size w4 w6 := (L5.out.alloc s5 (.cells Try.zeroCells40 40)).trans (hBx.mono (by simp; omega)); have s6 : w4.heap.size ≤ w6.heap.size := L6.size; have rg6 : w6.rangeAt w.heap.size 0 (ints h) := IB.rangeAt' (Blk.below' M4.out.J L6); have L6 := hid L6; have Z6 := hid (show IB w6 w5.heap.size 40 Z80 from Blk.below' (newz80 w5) hBx); have th6 : w6.there w5.heap.size 0 80 := IB.there' Z6.out rfl; clear hBx)
    | (go_at_call 30; have tok := Z5.out; clear tok; (with_reducible refine (K3.out w5 A5 c5 O5.out).mono ?_); rintro e w6 ⟨rfl, hBx⟩; have L6 : Below w4.heap.size w4 w6 := L5.out.trans (hBx.mono s5); have s6 : w4.heap.size ≤ w6.heap.size := L6.size; have rg6 : w6.rangeAt w.heap.size 0 (ints h) := IB.rangeAt' (Blk.below' M4.out.J L6); have L6 := hid L6; have Y6 := hid (show IB w6 w4.heap.size 40 Z80 from Blk.below' Z5.out hBx); have th6 : w6.there w4.heap.size 0 80 := IB.there' Y6.out rfl; clear hBx)
    | (go_at_call 30; (with_reducible refine (K3.out w5 A5 c5 O5.out).mono ?_); rintro e w6 ⟨rfl, hBx⟩; have L6 : Below w4.heap.size w4 w6 := L5.out.trans (hBx.mono s5); have s6 : w4.heap.size ≤ w6.heap.size := L6.size; have rg6 : w6.rangeAt w.heap.size 0 (ints h) := IB.rangeAt' (Blk.below' M4.out.J L6); have L6 := hid L6; have th6 : (w6.alloc (.cells Try.zeroCells40 40)).there w6.heap.size 0 80 := IB.there' (newz80 w6) rfl; clear hBx))
  all_goals
    rename_i hHeldZ
    clear hHeldZ
  all_goals
    first
      | (have tok := Y6.out
         clear tok
         have M7 : ML w (w6.setCells w4.heap.size 0 (ints q)) h Y xs A3 A4 A := M4.out.below (below_sc (Nat.le_refl _) _ _ _ L6.out)
         have Q7 : IB (w6.setCells w4.heap.size 0 (ints q)) w4.heap.size 40 q := IB.setCs Y6.out (by rw [HQ.out]; rfl)
         obtain ⟨V, hV⟩ : ∃ V, V = w6.setCells w4.heap.size 0 (ints q) := ⟨_, rfl⟩
         rw [← hV] at M7 Q7 ⊢
         have M7 := hid M7
         have Q7 := hid Q7
         clear hV)
      | (have tok := Z6.out
         clear tok
         have M7 : ML w (w6.setCells w5.heap.size 0 (ints q)) h Y xs A3 A4 A := M4.out.below (below_sc s5 _ _ _ L6.out)
         have Q7 : IB (w6.setCells w5.heap.size 0 (ints q)) w5.heap.size 40 q := IB.setCs Z6.out (by rw [HQ.out]; rfl)
         obtain ⟨V, hV⟩ : ∃ V, V = w6.setCells w5.heap.size 0 (ints q) := ⟨_, rfl⟩
         rw [← hV] at M7 Q7 ⊢
         have M7 := hid M7
         have Q7 := hid Q7
         clear hV)
      | (have M7 : ML w ((w6.alloc (.cells Try.zeroCells40 40)).setCells w6.heap.size 0 (ints q)) h Y xs A3 A4 A := M4.out.below (below_sc s6 _ _ _ (L6.out.alloc s6 (.cells Try.zeroCells40 40)))
         have Q7 : IB ((w6.alloc (.cells Try.zeroCells40 40)).setCells w6.heap.size 0 (ints q)) w6.heap.size 40 q := IB.setCs (newz80 w6) (by rw [HQ.out]; rfl)
         obtain ⟨V, hV⟩ : ∃ V, V = (w6.alloc (.cells Try.zeroCells40 40)).setCells w6.heap.size 0 (ints q) := ⟨_, rfl⟩
         rw [← hV] at M7 Q7 ⊢
         have M7 := hid M7
         have Q7 := hid Q7
         clear hV)
  all_goals
    clear rg4 rg5 rg6 th6 hu80 hi80 hi80q hlq h1q s5 s6 hlt4
    simp only [Exit.then]
    go_wp2_with (refine wpList_loadI rfl 40 (.tmp 4) rfl _ 40 h 80 _ rfl M7.out.J Try.underlying40 rfl size80k HH.out ?_)
    refine (K4.out V M7.out.X).mono ?_
    rintro e w8 ⟨rfl, hB⟩
    have M8 := hid (M7.out.below hB)
    have Q8 := hid (Blk.below' Q7.out hB)
    clear hB M7 Q7
    go_wp2_with (first
      | (refine wpList_storeI rfl 40 (.tmp 15) (.tmp 47) rfl _ 40 Z80 q 80 rfl rfl (newz80 w8) size80k rfl HQ.out ?_
         have B9 := below_stored w8 (.cells Try.zeroCells40 40) (agi q)
         obtain ⟨w9, hw9⟩ : ∃ w9, w9 = (w8.alloc (.cells Try.zeroCells40 40)).setRow w8.heap.size (agi q) := ⟨_, rfl⟩
         have M9 := hid (show ML w w9 h Y xs A3 A4 A by rw [hw9]; exact M8.out.below B9)
         have Q9 := hid (show IB w9 _ 40 q by rw [hw9]; exact Blk.below' Q8.out B9)
         have P9 := hid (show IB w9 w8.heap.size 40 q by rw [hw9]; exact IB.setRow (newz80 w8) q)
         rw [← hw9]
         clear hw9 B9)
      | (at_make; refine wpList_makeI rfl _ _ rfl .i64 .i64 40 rfl rfl w9.heap.size (by omega) (Nat.le_refl _) ?_; intro w10 hO hG; have B10 : Below w9.heap.size w9 w10 := (Below.refl w9.heap.size w9).grown hG (Nat.le_refl _) (by simp); have M10 := hid (M9.out.below B10); have Q10 := hid (Blk.below' Q9.out B10); have P10 := hid (Blk.below' P9.out B10); have O10 := hid hO.reads; clear hO hG B10 M9 Q9 P9 M8 Q8))
    refine (K5.out w10 _ _ O10.out).mono ?_
    rintro e w11 ⟨A11, c11, rfl, hB⟩
    have M11 := hid (M10.out.below hB)
    have Q11 := hid (Blk.below' Q10.out hB)
    have P11 := hid (Blk.below' P10.out hB)
    clear hB M10 Q10 P10 O10
    go_wp2_with fail
    refine (Same_yes A3 A4 c3 c4 Y.length _ _ Y _ M11.out.R1 M11.out.R2 rfl (by have := HYL.out; omega)).mono ?_
    rintro e w12 ⟨rfl, hB⟩
    have M12 := hid (M11.out.below hB)
    have Q12 := hid (Blk.below' Q11.out hB)
    have P12 := hid (Blk.below' P11.out hB)
    clear hB M11 Q11 P11
    go_wp2_with (first
      | (refine wpList_loadI rfl 40 (.tmp 13) rfl _ 40 q 80 _ rfl Q12.out Try.underlying40 rfl size80k HQ.out ?_)
      | (refine wpList_loadI rfl 40 (.tmp 15) rfl _ 40 q 80 _ rfl P12.out Try.underlying40 rfl size80k HQ.out ?_))
    go_ret
    exact ⟨by simp, M12.out.B⟩
end Go.Proofs.Ytniechgbbkkncaa
