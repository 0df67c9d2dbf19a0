/- Texts that the law rests on, laid together: DeF, QuiC, PkD, UnC, StepI. -/
import Derived.Test.YthoiikkjjaldnaaGreatDoorZc4ecd7
import Derived.Test.YthoiikkjjaldnaaGreatDoorZ685a03
import Derived.BigQuiet
import Derived.Deep.QuietTactic
import Derived.Deep.RegionHeld3
import Derived.BigRegion
/- Package coder's filter and frame. -/
namespace Go.Proofs.YthoiikkjjaldnaaGreatDoor
set_option linter.unusedVariables false
set_option linter.unusedSimpArgs false
set_option maxRecDepth 100000
open Go.RowKit

theorem MB.set_r {w : World} {g : Nat} {m : Mm} (h : MB w g m) (k : m.ok) (r : List Int) (hr : r.length = 8) : MB (w.setCells g 0 (ints r)) g { m with r := r } := by
  have h0 : Blk w g 25 ([] ++ (ints m.r ++ (ints m.p ++ (ints m.e ++ m.tl)))).toArray := h
  exact blk_setCells (ints r) (ints m.r) [] _ w h0 (by rw [ints_len, ints_len, hr, k.r])
theorem MB.thereR {w : World} {g : Nat} {m : Mm} (h : MB w g m) (k : m.ok) : w.there g 0 8 := fun j hj => h.there k j (by omega)

set_option maxHeartbeats 2000000 in
theorem filter_any (was now : List Int) (s : Nat) (w : World) (ha : was.length = 8) (hb : now.length = 8) (hs : s < 2) :
    Calls Tryz.prog 44 #[.agg (agi was), .agg (agi now), .int .i64 (s : Nat)] w (fun e w' => e = .returned (.agg (agi (frA was now s))) ∧ Below w.heap.size w w') := by
  have hR := results_row1 (fn := Tryz.f44) (p := 6) (ty := 90) rfl
  have h1 := IB.new w 22 was
  have h2 := IB.new (w.alloc (.cells (agi was) 22)) 22 now
  have h3 := IB.new ((w.alloc (.cells (agi was) 22)).alloc (.cells (agi now) 22)) 90 Z9
  simp only [World.size_alloc] at h2 h3
  have B0 := (((Below.refl _ _).alloc (Nat.le_refl w.heap.size) (.cells (agi was) 22)).alloc (by simp) (.cells (agi now) 22)).alloc (by simp; omega) (.cells (agi Z9) 90)
  have A0 := hid (Blk.alloc (Blk.alloc h1 (.cells (agi now) 22)) (.cells (agi Z9) 90))
  have N0 := hid (Blk.alloc h2 (.cells (agi Z9) 90))
  have R0 := hid h3
  have B0 := hid B0
  have KM := hid (fun W => lmix_any was now ((2 + 2 * s : Nat) : Int) W ha hb)
  have ML := hid (mixL_len was now ((2 + 2 * s : Nat) : Int))
  have KD := hid (fun W => direct_any (mixL was now ((2 + 2 * s : Nat) : Int)) W (mixL_len _ _ _))
  have FA := hid (show frA was now s = dirL (mixL was now ((2 + 2 * s : Nat) : Int)) from rfl)
  have DL := hid (dirL_len (mixL was now ((2 + 2 * s : Nat) : Int)))
  have HA := hid ha
  have HB := hid hb
  have KM := KM.out
  unfold Mixes at KM
  unfold Dirs at KD
  generalize errOf (mixB was now ((2 + 2 * s : Nat) : Int)) = e1 at *
  generalize errOf (steadyB (mixL was now ((2 + 2 * s : Nat) : Int))) = e2 at *
  generalize frA was now s = fa at *
  generalize mixL was now ((2 + 2 * s : Nat) : Int) = mx at *
  rw [show ((2 + 2 * s : Nat) : Int) = 2 + 2 * (s : Int) by push_cast; rfl] at KM
  have KM := hid KM
  have FA2 := FA.out
  subst FA2
  have KD := hid KD.out
  generalize dirL mx = d at *
  obtain ⟨V, hV⟩ : ∃ V, V = ((w.alloc (.cells (agi was) 22)).alloc (.cells (agi now) 22)).alloc (.cells (agi Z9) 90) := ⟨_, rfl⟩
  rw [← hV] at A0 N0 R0 B0
  rw [z9_eq] at hV
  have HV := hid hV.symm
  clear hV h1 h2 h3 ha hb FA
  go_enter Tryz.func44, Tryz.ntmps44
  go_wp2_with (first
    | (rw [HV.out]; clear HV)
    | (refine wpList_loadI rfl 22 (.tmp 3) rfl _ 22 was 8 _ rfl A0.out Tryz.underlying22 rfl size8 HA.out ?_)
    | (refine wpList_loadI rfl 22 (.tmp 4) rfl _ 22 now 8 _ rfl N0.out Tryz.underlying22 rfl size8 HB.out ?_))
  refine (KM.out V).mono ?_
  rintro e w1 ⟨rfl, hB⟩
  have R1 := hid (Blk.below' R0.out hB)
  have B1 := hid (B0.out.trans (hB.mono B0.out.size))
  clear hB A0 N0
  go_wp2_with (first
    | (refine wpList_storeI rfl 22 (.tmp 7) (.tmp 18) rfl _ 22 Z8 mx 8 rfl rfl (IB.new w1 22 Z8) size8 rfl ML.out ?_
       have BB := below_stored w1 (.cells (agi Z8) 22) (agi mx)
       obtain ⟨V2, hV⟩ : ∃ V2, V2 = (w1.alloc (.cells (agi Z8) 22)).setRow w1.heap.size (agi mx) := ⟨_, rfl⟩
       have R2 := hid (show IB V2 (w.heap.size + 1 + 1) 90 Z9 from by rw [hV]; exact Blk.below' R1.out BB)
       have B2 := hid (show Below w.heap.size w V2 from by rw [hV]; exact B1.out.trans (BB.mono B1.out.size))
       have M2 := hid (show IB V2 w1.heap.size 22 mx from by rw [hV]; exact IB.stored w1 22 Z8 mx)
       rw [z8_eq] at hV
       rw [← hV]
       clear hV BB)
    | (refine wpList_loadI rfl 22 (.tmp 7) rfl _ 22 mx 8 _ rfl M2.out Tryz.underlying22 rfl size8 ML.out ?_))
  refine (KD.out V2).mono ?_
  rintro e w3 ⟨rfl, hB⟩
  have R3 := hid (Blk.below' R2.out hB)
  have B3 := hid (B2.out.trans (hB.mono B2.out.size))
  clear hB M2
  go_wp2_with (first
    | (refine wpList_storeI rfl 90 (.tmp 9) (.tmp 23) rfl _ 90 Z9 d 9 rfl rfl (IB.new w3 90 Z9) size9 rfl DL.out ?_
       have BB := below_stored w3 (.cells (agi Z9) 90) (agi d)
       obtain ⟨V4, hV⟩ : ∃ V4, V4 = (w3.alloc (.cells (agi Z9) 90)).setRow w3.heap.size (agi d) := ⟨_, rfl⟩
       have R4 := hid (show IB V4 (w.heap.size + 1 + 1) 90 Z9 from by rw [hV]; exact Blk.below' R3.out BB)
       have B4 := hid (show Below w.heap.size w V4 from by rw [hV]; exact B3.out.trans (BB.mono B3.out.size))
       have D4 := hid (show IB V4 w3.heap.size 90 d from by rw [hV]; exact IB.stored w3 90 Z9 d)
       rw [z9_eq] at hV
       rw [← hV]
       clear hV BB)
    | (refine wpList_loadI rfl 90 (.tmp 9) rfl _ 90 d 9 _ rfl D4.out Tryz.underlying90 rfl size9 DL.out ?_)
    | (refine wpList_storeI rfl 90 (.tmp 6) (.tmp 25) rfl _ 90 Z9 d 9 rfl rfl R4.out size9 rfl DL.out ?_))
  refine bodyPost_ret (v := _) (hR _ _ _ 90 d _ 9 rfl (IB.setRow R4.out d) Tryz.underlying90 rfl size9 DL.out) rfl ?_
  exact ⟨rfl, below_setRow B4.out (by omega) _⟩

/-- The boxes of frame: the memory, the packet, the answer's. -/
structure Fb (w wr : World) (m : Mm) (ps : List Int) : Prop where
  A : MB wr w.heap.size m
  P : IB wr (w.heap.size + 1) 38 ps
  R : MB wr (w.heap.size + 2) zeroM
  bel : Below w.heap.size w wr
theorem Fb.start (w : World) (m : Mm) (ps : List Int) :
    Fb w (((w.alloc (.cells m.ag 25)).alloc (.cells (agi ps) 38)).alloc (.cells Tryz.zeroCells25 25)) m ps := by
  have h1 := MB.new w m
  have h2 := IB.new (w.alloc (.cells m.ag 25)) 38 ps
  have h3 := newzero ((w.alloc (.cells m.ag 25)).alloc (.cells (agi ps) 38))
  simp only [World.size_alloc] at h2 h3
  exact ⟨Blk.alloc (Blk.alloc h1 _) _, Blk.alloc h2 _, h3, ((((Below.refl _ _).alloc (Nat.le_refl w.heap.size) (.cells m.ag 25)).alloc (by simp) (.cells (agi ps) 38)).alloc (by simp; omega) (.cells Tryz.zeroCells25 25))⟩
section
variable {w wr w' : World} {m mm : Mm} {ps : List Int}
theorem Fb.below (s : Fb w wr m ps) (hb : Below wr.heap.size wr w') : Fb w w' m ps :=
  ⟨Blk.below' s.A hb, Blk.below' s.P hb, Blk.below' s.R hb, s.bel.trans (hb.mono s.bel.size)⟩
theorem Fb.lt (s : Fb w wr m ps) : w.heap.size + 3 ≤ wr.heap.size := Blk.lt s.R
theorem Fb.setA (s : Fb w wr m ps) : Fb w (wr.setRow w.heap.size mm.ag) mm ps :=
  ⟨s.A.setRow mm, Blk.rowFar s.P (by omega), Blk.rowFar s.R (by omega), below_setRow s.bel (Nat.le_refl _) _⟩
theorem Fb.setSi (s : Fb w wr m ps) (k : m.ok) (x : Bool) : Fb w (wr.setCell ⟨w.heap.size, 101, none⟩ (.bool x)) { m with si := x } ps :=
  ⟨s.A.set_si k x, Blk.far s.P (by simp) _, Blk.far s.R (by simp) _, s.bel.setCell (by simp) _⟩
theorem Fb.setEr (s : Fb w wr m ps) (k : m.ok) (x : Int) : Fb w (wr.setCell ⟨w.heap.size, 99, none⟩ (.int .i64 x)) { m with er := x } ps :=
  ⟨s.A.set_er k x, Blk.far s.P (by simp) _, Blk.far s.R (by simp) _, s.bel.setCell (by simp) _⟩
theorem Fb.setRf (s : Fb w wr m ps) (k : m.ok) (r : List Int) (hr : r.length = 8) : Fb w (wr.setCells w.heap.size 0 (ints r)) { m with r := r } ps :=
  ⟨s.A.set_r k r hr, blk_sc (by omega) _ _ _ s.P, blk_sc (by omega) _ _ _ s.R, below_sc (Nat.le_refl _) _ _ _ s.bel⟩
end
/-- The boxes, and the reflections' of the last frame and of this one. -/
structure Fc (w wr : World) (m : Mm) (ps : List Int) (gN gW : Nat) (now was : List Int) : Prop where
  F : Fb w wr m ps
  N : IB wr gN 22 now
  W : IB wr gW 22 was
  l1 : w.heap.size + 3 ≤ gN
  l2 : gN < gW
section
variable {w wr w' : World} {m mm : Mm} {ps now was : List Int} {gN gW : Nat}
theorem Fc.below (s : Fc w wr m ps gN gW now was) (hb : Below wr.heap.size wr w') : Fc w w' m ps gN gW now was := ⟨s.F.below hb, Blk.below' s.N hb, Blk.below' s.W hb, s.l1, s.l2⟩
theorem Fc.glt (s : Fc w wr m ps gN gW now was) : gW < wr.heap.size := Blk.lt s.W
theorem Fc.setA (s : Fc w wr m ps gN gW now was) : Fc w (wr.setRow w.heap.size mm.ag) mm ps gN gW now was := ⟨s.F.setA, Blk.rowFar s.N (by have := s.l1; omega), Blk.rowFar s.W (by have := s.l1; have := s.l2; omega), s.l1, s.l2⟩
theorem Fc.setSi (s : Fc w wr m ps gN gW now was) (k : m.ok) (x : Bool) : Fc w (wr.setCell ⟨w.heap.size, 101, none⟩ (.bool x)) { m with si := x } ps gN gW now was :=
  ⟨s.F.setSi k x, Blk.far s.N (by have := s.l1; show gN ≠ w.heap.size; omega) _, Blk.far s.W (by have := s.l1; have := s.l2; show gW ≠ w.heap.size; omega) _, s.l1, s.l2⟩
theorem Fc.grown {A : Option Addr} {c : Nat} {xs : List Int} (s : Fc w wr m ps gN gW now was) (hO : Own wr (gW + 1) A c xs) (hG : wr.grownBy w' (A.map (·.block))) : Fc w w' m ps gN gW now was := by
  have h1 := s.l1
  have h2 := s.l2
  have h3 := s.glt
  exact ⟨⟨Blk.grownA s.F.A hG (hO.ne_ (by omega)), Blk.grownA s.F.P hG (hO.ne_ (by omega)), Blk.grownA s.F.R hG (hO.ne_ (by omega)), below_grown s.F.bel (hO.more (base' := w.heap.size) (by omega)) hG (by omega)⟩, Blk.grownA s.N hG (hO.ne_ (by omega)), Blk.grownA s.W hG (hO.ne_ (by omega)), s.l1, s.l2⟩
end

/-- The round's boxes: those, the predictor's, and the samples so far. -/
structure FrC (w W : World) (m : Mm) (ps : List Int) (gN gW : Nat) (now was : List Int) (gA : Nat) (a : List Int) (A : Option Addr) (c : Nat) (zs : List Int) : Prop where
  C : Fc w W m ps gN gW now was
  F : IB W gA 90 a
  O : Own W (gW + 1) A c zs
theorem sizeSub : (Tryz.prog.info? 35).map (·.size) = some 8 := by kernel_rfl
set_option maxHeartbeats 8000000 in
theorem frame_any (m : Mm) (k : m.ok) (g : goodM m = true) (ps : List Int) (w : World) (T1 : TabA w 4 rootsL) (T2 : TabA w 2 gainsL) (T3 : TabA w 3 widthL) (hp : pkTo ps 25 = true) (hl : ps.length = 25) :
    Calls Tryz.prog 24 #[.agg m.ag, .agg (agi ps)] w (PlayA w (frM m ps) (frO m ps)) := by
  have hR := results_mem2 (fn := Tryz.f24) (p := 4) (q := 5) rfl
  have S0 := Fb.start w m ps
  obtain ⟨V, hV⟩ : ∃ V, V = (((w.alloc (.cells m.ag 25)).alloc (.cells (agi ps) 38)).alloc (.cells Tryz.zeroCells25 25)) := ⟨_, rfl⟩
  rw [← hV] at S0
  have HV := hid hV.symm
  have S0 := hid S0
  obtain ⟨m0, hm0⟩ : ∃ m0, m0 = fr0 m ps := ⟨_, rfl⟩
  obtain ⟨q, hq⟩ : ∃ q, q = frQ ps := ⟨_, rfl⟩
  obtain ⟨rp, hrp⟩ : ∃ rp, rp = refL ps := ⟨_, rfl⟩
  obtain ⟨now, hnow⟩ : ∃ now, now = frNow ps := ⟨_, rfl⟩
  obtain ⟨m1, hm1⟩ : ∃ m1 : Mm, m1 = { m0 with si := q } := ⟨_, rfl⟩
  obtain ⟨was, hwas⟩ : ∃ was, was = m0.r := ⟨_, rfl⟩
  have K0 := hid (show m0.ok from by rw [hm0]; exact fr0_ok k ps)
  have G0 : goodM m0 = true := by rw [hm0]; exact fr0_good g ps
  have K1 := hid (show m1.ok from by rw [hm1]; exact ⟨K0.out.r, K0.out.p, K0.out.e⟩)
  have G1 := hid (show goodM m1 = true from by rw [hm1]; exact good_si G0 q)
  have SW : steadyB was = true := by rw [hwas, hm0]; exact fr0_steady g ps
  have SN : steadyB now = true := by rw [hnow]; exact frNow_steady hp
  have WL := hid (show was.length = 8 from by rw [hwas]; exact K0.out.r)
  have NL := hid (show now.length = 8 from by rw [hnow]; exact frNow_len ps)
  have FM := hid (fun (z : Mm) (hz : z = frK q was now ps m1 2) => show frM m ps = { z with r := now, er := 0 } from by
    unfold frM frE
    rw [hz, hm1, hwas, hm0, hq, hnow])
  have FO := hid (fun (Y : List Int) (hY : Y = frZ q was now ps m1 2) => show frO m ps = Y from by
    unfold frO
    rw [hY, hm1, hwas, hm0, hq, hnow])
  have KV := hid (fun W (h : Below w.heap.size w W) => show Calls Tryz.prog 43 #[.agg (ints rp).toArray] W (fun e w' => e = .returned (.tuple #[.agg (agi now), .int .i64 0]) ∧ Below W.heap.size W w') from by
    have h1 := quantValues_any (refL ps) W (refL_len hl) (T3.below h)
    unfold AAns at h1
    rw [frNow_eq hp, frNow_err hp 8 (Nat.le_refl _), ← hnow, ← hrp] at h1
    exact h1)
  have KF := hid (fun (s : Nat) (hs : s < 2) W => filter_any was now s W WL.out NL.out hs)
  have KK := hid (fun n (hn : n ≤ 2) => frK_ok (q := q) (was := was) (now := now) K1.out hp hl n hn)
  have KG := hid (fun n (hn : n ≤ 2) => frK_good (q := q) (was := was) (now := now) G1.out hp hl n hn)
  have KU := hid (fun s (hs : s < 2) => subL_ok hp hl hs)
  have KA := hid (fun s (hs : s < 2) => frA_good SW SN hs)
  have HRP := hid (fun W gg (h : IB W gg 38 ps) => show W.rangeAt gg 1 (ints rp) from by rw [hrp]; exact h.mid 1 8 (by omega))
  have HL := hid hl
  have TT1 := hid T1
  have TT2 := hid T2
  obtain ⟨p0, hp0⟩ : ∃ p0, p0 = ps.getD 0 0 := ⟨_, rfl⟩
  have hk : p0 = 0 ∨ p0 = 1 ∨ p0 = 2 := by
    have h := pkTo_at hp (show 0 < 25 by omega)
    have e : pkT.getD 0 0 = 2 := rfl
    unfold pkOk at h
    rw [e] at h
    omega
  have c0 := S0.out.P.cell 0 (by rw [hl]; omega)
  rw [← hp0] at c0
  have P0 := hid hp0
  have KM := hid k
  have M0 := hid hm0
  have SI1 := hid (show m1.si = q from by rw [hm1])
  have M1 := hid hm1
  have HW := hid hwas
  have HQ := hid hq
  have HI8 := hid (show (Tryz.prog.info? 22).map (·.size) = some (ints rp).length from by rw [ints_len, hrp, refL_len hl]; exact size8)
  have HI8' := hid (show (Tryz.prog.info? 22).map (·.size) = some (ints m0.r).length from by rw [ints_len, K0.out.r]; exact size8)
  have SZ := hid (show (Tryz.prog.info? 22).map (·.size) = some (agi now).size from by rw [agi_size, NL.out]; exact size8)
  clear hV hrp hm0 hq hnow hm1 hwas k g hp hl hp0 T1 T2 T3 SW SN G0
  rcases hk with rfl | rfl | rfl
  · have e0 := hid (show m0 = m from by rw [M0.out]; unfold fr0; rw [← P0.out, if_neg (by decide)])
    have eq0 := hid (show q = false from by rw [HQ.out]; unfold frQ; rw [← P0.out]; decide)
    have e0 := e0.out
    subst e0
    have eq0 := eq0.out
    subst eq0
    clear M0 HQ
    go_enter Tryz.func24, Tryz.ntmps24
    go_wp2_with (first
      | (rw [HV.out]; clear HV)
      | (refine wpList_load_mid rfl 22 (.tmp 19) rfl _ _ rfl (ints rp) _ (HRP.out _ _ S0.out.P) Tryz.underlying22 rfl HI8.out ?_))
    with_reducible refine (KV.out V S0.out.bel).mono ?_
    rintro e w1 ⟨rfl, hB⟩
    have S1 := hid (S0.out.below hB)
    clear hB S0 KV c0
    have SX1 := hid S1.out.lt
    go_wp2_with (first
      | (refine wpList_storeI rfl 22 (.tmp 7) (.tmp 22) rfl _ 22 Z8 now 8 rfl rfl (IB.new w1 22 Z8) size8 rfl NL.out ?_
         have BB := below_stored w1 (.cells (agi Z8) 22) (agi now)
         obtain ⟨V2, hV⟩ : ∃ V2, V2 = (w1.alloc (.cells (agi Z8) 22)).setRow w1.heap.size (agi now) := ⟨_, rfl⟩
         have S2 := hid (show Fb w V2 m0 ps from by rw [hV]; exact S1.out.below BB)
         have N2 := hid (show IB V2 w1.heap.size 22 now from by rw [hV]; exact IB.stored w1 22 Z8 now)
         have Z2 := hid (show w1.heap.size < V2.heap.size from Blk.lt N2.out)
         rw [z8_eq] at hV
         rw [← hV]
         clear hV BB)
      | (refine wpList_load_mid rfl 22 (.tmp 24) rfl _ _ rfl (ints m0.r) _ (S2.out.A.R K0.out) Tryz.underlying22 rfl HI8'.out ?_; rw [show (ints m0.r).toArray = agi was from by rw [HW.out]; rfl])
      | (refine wpList_storeI rfl 22 (.tmp 9) (.tmp 25) rfl _ 22 Z8 was 8 rfl rfl (IB.new V2 22 Z8) size8 rfl WL.out ?_
         have BB := below_stored V2 (.cells (agi Z8) 22) (agi was)
         obtain ⟨V3, hV⟩ : ∃ V3, V3 = (V2.alloc (.cells (agi Z8) 22)).setRow V2.heap.size (agi was) := ⟨_, rfl⟩
         have S3 := hid (show Fc w V3 m0 ps w1.heap.size V2.heap.size now was from by rw [hV]; exact ⟨S2.out.below BB, Blk.below' N2.out BB, IB.stored V2 22 Z8 was, by have := SX1.out; omega, by have := Z2.out; omega⟩)
         have c3 := S3.out.F.P.cell 0 (by rw [HL.out]; omega)
         rw [← P0.out] at c3
         have d3 := S3.out.F.A.csi K0.out
         have f3 := MB.frozen S3.out.F.A 101
         have S4 := hid (show Fc w (V3.setCell ⟨w.heap.size, 101, none⟩ (.bool false)) m1 ps w1.heap.size V2.heap.size now was from by rw [M1.out]; exact S3.out.setSi K0.out false)
         rw [z8_eq] at hV
         rw [← hV]
         clear hV BB))
    obtain ⟨V4, hV4⟩ : ∃ V4, V4 = V3.setCell ⟨w.heap.size, 101, none⟩ (.bool false) := ⟨_, rfl⟩
    obtain ⟨gN, hgN⟩ : ∃ gN, gN = w1.heap.size := ⟨_, rfl⟩
    obtain ⟨gW, hgW⟩ : ∃ gW, gW = V2.heap.size := ⟨_, rfl⟩
    rw [← hV4, ← hgN, ← hgW] at S4
    rw [← hV4, ← hgN, ← hgW]
    clear hV4 hgN hgW c3 d3 f3 S3 N2 Z2 S2 S1 SX1 P0 M1
    go_loopw [6, 30] (fun ov iv wr => ∃ (k : Nat) (A : Option Addr) (c n : Nat), k ≤ 2 ∧ iv = .int .i64 k ∧ ov = .slice A n c ∧ Hid (n = 40 * k) ∧ Hid (Own wr (gW + 1) A c (frZ false was now ps m1 k)) ∧ Hid (Fc w wr (frK false was now ps m1 k) ps gN gW now was)) (fun _ iv _ => 2 - (intOf iv).toNat)
    case atStart => exact ⟨0, none, 0, 0, by omega, rfl, rfl, hid rfl, hid Own.nil, S4⟩
    case round =>
      clear S4
      obtain ⟨k, A, c, n, hk, rfl, rfl, HN, HO, HC⟩ := hrel
      by_cases hlt : k < 2
      · have KO := hid (KK.out k (by omega))
        have GO := hid (KG.out k (by omega))
        have KFk := hid (KF.out k hlt)
        have FL := hid (frA_len was now k)
        have Kn := hid (KK.out (k + 1) (by omega))
        have NM := hid (show frK false was now ps m1 (k + 1) = frP false (frA was now k) (frK false was now ps m1 k) (subL ps k) from rfl)
        have NZ := hid (show frZ false was now ps m1 (k + 1) = frZ false was now ps m1 k ++ frY false (frA was now k) (frK false was now ps m1 k) (subL ps k) from rfl)
        have YL := hid (frY_len false (frA was now k) (frK false was now ps m1 k) (subL ps k))
        have LZ := hid (show (frZ false was now ps m1 k).length = n from by rw [frZ_len, HN.out])
        have SI := hid (show (frK false was now ps m1 k).si = false from by rw [frK_si]; exact SI1.out)
        have UU := KU.out k hlt
        have GA := KA.out k hlt
        have KH := hid (fun W (h : Below w.heap.size w W) => show Calls Tryz.prog 46 #[.agg (frK false was now ps m1 k).cs.toArray, .agg (ints (frA was now k)).toArray, .agg (ints (subL ps k)).toArray] W (PlayA W (frP false (frA was now k) (frK false was now ps m1 k) (subL ps k)) (frY false (frA was now k) (frK false was now ps m1 k) (subL ps k))) from by
          have h1 := half_any (frK false was now ps m1 k) KO.out (frA was now k) (subL ps k) W (TT1.out.below h) (TT2.out.below h) (frA_len _ _ _) UU
          have h2 := frP_voice GO.out UU GA
          rw [h2.1, h2.2] at h1
          exact h1)
        have HSU := hid (fun W gg (h : IB W gg 38 ps) => show W.rangeAt gg (9 + k * 8) (ints (subL ps k)) from by
          have h2 := h.mid (9 + 8 * k) 8 (by rw [HL.out]; omega)
          rw [show 9 + 8 * k = 9 + k * 8 by omega] at h2
          unfold subL
          rw [show 9 + 8 * k = 9 + k * 8 by omega]
          exact h2)
        have HI35 := hid (show (Tryz.prog.info? 35).map (·.size) = some (ints (subL ps k)).length from by rw [ints_len, UU.l]; exact sizeSub)
        rw [NM.out] at Kn
        generalize frP false (frA was now k) (frK false was now ps m1 k) (subL ps k) = mn at *
        generalize frY false (frA was now k) (frK false was now ps m1 k) (subL ps k) = y at *
        generalize frA was now k = a at *
        generalize frK false was now ps m1 k = mk at *
        generalize frZ false was now ps m1 k = zs at *
        generalize subL ps k = su at *
        clear KF KK KG KU KA UU GA GO
        go_wp2_with (first
          | (refine wpList_loadI rfl 22 (.tmp 9) rfl _ 22 was 8 _ rfl HC.out.W Tryz.underlying22 rfl size8 WL.out ?_)
          | (refine wpList_loadI rfl 22 (.tmp 7) rfl _ 22 now 8 _ rfl HC.out.N Tryz.underlying22 rfl size8 NL.out ?_))
        with_reducible refine (KFk.out _).mono ?_
        rintro e w5 ⟨rfl, hB⟩
        have C5 := hid (HC.out.below hB)
        have O5 := hid (HO.out.below hB)
        have SX5 := hid C5.out.glt
        clear hB HC HO KFk
        go_wp2_with (first
          | (refine wpList_storeI rfl 90 (.tmp 11) (.tmp 36) rfl _ 90 Z9 a 9 rfl rfl (IB.new w5 90 Z9) size9 rfl FL.out ?_
             have BB := below_stored w5 (.cells (agi Z9) 90) (agi a)
             obtain ⟨V6, hV⟩ : ∃ V6, V6 = (w5.alloc (.cells (agi Z9) 90)).setRow w5.heap.size (agi a) := ⟨_, rfl⟩
             have C6 := hid (show Fc w V6 mk ps gN gW now was from by rw [hV]; exact C5.out.below BB)
             have A6 := hid (show IB V6 w5.heap.size 90 a from by rw [hV]; exact IB.stored w5 90 Z9 a)
             have O6 := hid (show Own V6 (gW + 1) A c zs from by rw [hV]; exact O5.out.below BB)
             have d6 := C6.out.F.A.csi KO.out
             rw [SI.out] at d6
             rw [z9_eq] at hV
             rw [← hV]
             clear hV BB))
        obtain ⟨gA, hgA⟩ : ∃ gA, gA = w5.heap.size := ⟨_, rfl⟩
        have GLT := hid (show gW < gA from by rw [hgA]; exact SX5.out)
        rw [← hgA] at A6
        rw [← hgA]
        clear hgA
        refine wp_region_ord [] [0, 1, 2, 3, 4, 5] 6 [7, 8, 9, 10, 11] (fun W => FrC w W mk ps gN gW now was gA a A c zs) (by kernel_rfl) (by kernel_rfl) rfl ⟨C6.out.below ((Below.refl _ _).drew), Blk.drew A6.out, O6.out.drew⟩ (fun _ _ d _ _ h => by cases d <;> exact h) ?_
        simp only [opsAt, List.getElem?_toArray, List.getElem?_cons_zero, List.getElem?_cons_succ]
        refine wpYields_nil ?_
        refine wpQuiet_step (fun K hK => ?_)
        refine quiet_mid (by rfl) 25 (.tmp 2) rfl w.heap.size 0 rfl mk.cs _ (fun W hW => MB.whole hW.C.F.A) Tryz.underlying25 rfl (by rw [sizeM, mk.len KO.out]) ?_
        refine hK _ ?_; clear hK K
        refine wpQuiet_step (fun K hK => ?_)
        refine quiet_mid (by rfl) 90 (.tmp 11) rfl gA 0 rfl (ints a) _ (fun W hW => range_of hW.F [] (ints a) [] (by simp) rfl) Tryz.underlying90 rfl (by rw [size9, ints_len, FL.out]) ?_
        refine hK _ ?_; clear hK K
        iterate 3
          refine wpQuiet_step (fun K hK => ?_)
          go_simp
          apply Exists.intro
          refine ⟨fun W hW => rfl, hK _ ?_⟩
          clear hK K
        refine wpQuiet_step (fun K hK => ?_)
        refine quiet_mid (by rfl) 35 (.tmp 57) rfl (w.heap.size + 1) (9 + k * 8) rfl (ints su) _ (fun W hW => HSU.out _ _ hW.C.F.P) Tryz.underlying35 rfl HI35.out ?_
        refine hK _ ?_; clear hK K
        refine wpQuiet_nil ?_
        intro W7 hW7
        have CW := hid hW7.C
        have OW := hid hW7.O
        clear hW7
        have SXW := hid (show gW < W7.heap.size from CW.out.glt)
        go_wp2_with (first
          | (go_at_call 46; (with_reducible refine (KH.out W7 CW.out.F.bel).mono ?_); rintro e w8 ⟨A2, c2, rfl, hO, hB⟩; have C8 := hid (CW.out.below hB); have O8 := hid (OW.out.below hB); have X8 := hid hO; clear hO hB; have C9 := hid (C8.out.setA (mm := mn)); have O9 := hid (O8.out.setRow (g := w.heap.size) (by have := C8.out.l1; have := C8.out.l2; omega) mn.ag); have X9 := hid (X8.out.setRow (g := w.heap.size) (by have := C8.out.l1; have := C8.out.l2; have := SXW.out; omega) mn.ag).reads; obtain ⟨V9, hV9⟩ : ∃ V9, V9 = w8.setRow w.heap.size mn.ag := ⟨_, rfl⟩; rw [← hV9] at C9 O9 X9; have HV9 := hid hV9; clear hV9; rw [YL.out])
          | (refine wpList_storeM rfl (.tmp 2) (.tmp 60) rfl _ mk mn rfl rfl C8.out.F.A KO.out Kn.out ?_; rw [← HV9.out]; clear HV9)
          | (at_builtin; refine wpList_catN rfl (.tmp 62) (.tmp 63) rfl (gW + 1) A c n zs rfl LZ.out O9.out V9.heap.size A2 c2 40 y rfl YL.out X9.out (by have := HN.out; omega) (by have := C9.out.glt; omega) ?_; intro A10 c10 w10 hO hG hA; have C10 := hid (C9.out.grown O9.out hG); have O10 := hid hO; clear hO hG hA))
        go_roundw
        case rel => exact ⟨k + 1, A10, c10, n + 40, by omega, by go_num, rfl, hid (by have := HN.out; omega), hid (by rw [NZ.out]; exact O10.out), hid (by rw [NM.out]; exact C10.out)⟩
        case measure => simp [intOf] <;> omega
      · obtain rfl : k = 2 := by omega
        obtain rfl : n = 80 := HN.out
        obtain ⟨mk, hmk⟩ : ∃ mk, mk = frK false was now ps m1 2 := ⟨_, rfl⟩
        have OKS := hid (show mk.ok from by rw [hmk]; exact KK.out 2 (Nat.le_refl _))
        have FZ := hid (FM.out mk hmk)
        have LO := hid (frO_len m0 ps)
        rw [← hmk] at HC
        rw [← FO.out _ rfl] at HO
        clear hmk FO FM KK KG KF KU KA
        generalize frO m0 ps = yf at *
        generalize frM m0 ps = mf at *
        have OKF := hid (show ({ mk with r := now, er := 0 } : Mm).ok from ⟨NL.out, OKS.out.p, OKS.out.e⟩)
        have S8 := hid (HC.out.F.setRf OKS.out now NL.out)
        have TH := hid (show wr.there w.heap.size 0 (agi now).size from by rw [agi_size, NL.out]; exact HC.out.F.A.thereR OKS.out)
        have O8 := hid (Own.setCs (g := w.heap.size) (by have := HC.out.l1; have := HC.out.l2; omega) (ints now) 0 _ HO.out)
        have GL := hid (show w.heap.size + 3 < gW + 1 from by have := HC.out.l1; have := HC.out.l2; omega)
        obtain ⟨V8, hV8⟩ : ∃ V8, V8 = wr.setCells w.heap.size 0 (ints now) := ⟨_, rfl⟩
        rw [← hV8] at S8 O8
        have HV8 := hid hV8
        have K8 := hid (show ({ mk with r := now } : Mm).ok from ⟨NL.out, OKS.out.p, OKS.out.e⟩)
        have d8 := S8.out.A.cer K8.out
        have f8 := MB.frozen S8.out.A 99
        have S9 := hid (show Fb w (V8.setCell ⟨w.heap.size, 99, none⟩ (.int .i64 0)) mf ps from by rw [FZ.out]; exact S8.out.setEr K8.out 0)
        have O9 := hid (Own.setC (g := w.heap.size) O8.out (by have := GL.out; omega) 99 (.int .i64 0))
        obtain ⟨V9, hV9⟩ : ∃ V9, V9 = V8.setCell ⟨w.heap.size, 99, none⟩ (.int .i64 0) := ⟨_, rfl⟩
        rw [← hV9] at S9 O9
        have HV9 := hid hV9.symm
        rw [← FZ.out] at OKF
        clear hV8 hV9
        go_wp2_with (first
          | (refine wpList_loadI rfl 22 (.tmp 7) rfl _ 22 now 8 _ rfl HC.out.N Tryz.underlying22 rfl size8 NL.out ?_)
          | (refine wpList_store_mid rfl 22 (.tmp 67) (.tmp 66) rfl w.heap.size 0 (agi now) rfl rfl TH.out SZ.out (agi_one _) ?_; rw [show (agi now).toList = ints now from rfl, ← HV8.out])
          | (rw [HV9.out]; clear HV9 d8 f8)
          | (refine wpList_loadM rfl (.tmp 2) rfl _ mf rfl S9.out.A OKF.out ?_)
          | (refine wpList_storeM rfl (.tmp 4) (.tmp 69) rfl _ zeroM mf rfl rfl S9.out.R zeroM_ok OKF.out ?_))
        refine bodyPost_ret (v := _) (hR _ _ _ mf rfl (MB.setRow S9.out.R mf) OKF.out) rfl ?_
        exact ⟨A, c, by rw [LO.out]; rfl, (O9.out.setRow (g := w.heap.size + 2) (by have := GL.out; omega) mf.ag).more (base' := w.heap.size) (by have := GL.out; omega), below_setRow S9.out.bel (g := w.heap.size + 2) (by omega) mf.ag⟩
  · have e0 := hid (show m0 = freshM from by rw [M0.out]; unfold fr0; rw [← P0.out, if_pos rfl])
    have eq0 := hid (show q = false from by rw [HQ.out]; unfold frQ; rw [← P0.out]; decide)
    have eq0 := eq0.out
    subst eq0
    have KFr := hid (fun W => show Calls Tryz.prog 41 #[] W (fun e w' => e = .returned (.agg m0.ag) ∧ Below W.heap.size W w') from by rw [e0.out]; exact fresh_any W)
    clear M0 HQ e0
    go_enter Tryz.func24, Tryz.ntmps24
    go_wp2_with (first
      | (rw [HV.out]; clear HV)
      | (go_at_call 41; (with_reducible refine (KFr.out V).mono ?_); rintro e w1 ⟨rfl, hB⟩; have S1 := hid (S0.out.below hB); clear hB; have S2 := hid (S1.out.setA (mm := m0)); obtain ⟨V2, hV2⟩ : ∃ V2, V2 = w1.setRow w.heap.size m0.ag := ⟨_, rfl⟩; rw [← hV2] at S2; have HV2 := hid hV2; clear hV2)
      | (refine wpList_storeM rfl (.tmp 2) (.tmp 17) rfl _ m m0 rfl rfl S1.out.A KM.out K0.out ?_; rw [← HV2.out]; clear HV2)
      | (refine wpList_load_mid rfl 22 (.tmp 19) rfl _ _ rfl (ints rp) _ (HRP.out _ _ S2.out.P) Tryz.underlying22 rfl HI8.out ?_))
    with_reducible refine (KV.out V2 S2.out.bel).mono ?_
    rintro e w1 ⟨rfl, hB⟩
    have S1 := hid (S2.out.below hB)
    clear hB S0 S2 KV c0 KFr
    have SX1 := hid S1.out.lt
    go_wp2_with (first
      | (refine wpList_storeI rfl 22 (.tmp 7) (.tmp 22) rfl _ 22 Z8 now 8 rfl rfl (IB.new w1 22 Z8) size8 rfl NL.out ?_
         have BB := below_stored w1 (.cells (agi Z8) 22) (agi now)
         obtain ⟨V2, hV⟩ : ∃ V2, V2 = (w1.alloc (.cells (agi Z8) 22)).setRow w1.heap.size (agi now) := ⟨_, rfl⟩
         have S2 := hid (show Fb w V2 m0 ps from by rw [hV]; exact S1.out.below BB)
         have N2 := hid (show IB V2 w1.heap.size 22 now from by rw [hV]; exact IB.stored w1 22 Z8 now)
         have Z2 := hid (show w1.heap.size < V2.heap.size from Blk.lt N2.out)
         rw [z8_eq] at hV
         rw [← hV]
         clear hV BB)
      | (refine wpList_load_mid rfl 22 (.tmp 24) rfl _ _ rfl (ints m0.r) _ (S2.out.A.R K0.out) Tryz.underlying22 rfl HI8'.out ?_; rw [show (ints m0.r).toArray = agi was from by rw [HW.out]; rfl])
      | (refine wpList_storeI rfl 22 (.tmp 9) (.tmp 25) rfl _ 22 Z8 was 8 rfl rfl (IB.new V2 22 Z8) size8 rfl WL.out ?_
         have BB := below_stored V2 (.cells (agi Z8) 22) (agi was)
         obtain ⟨V3, hV⟩ : ∃ V3, V3 = (V2.alloc (.cells (agi Z8) 22)).setRow V2.heap.size (agi was) := ⟨_, rfl⟩
         have S3 := hid (show Fc w V3 m0 ps w1.heap.size V2.heap.size now was from by rw [hV]; exact ⟨S2.out.below BB, Blk.below' N2.out BB, IB.stored V2 22 Z8 was, by have := SX1.out; omega, by have := Z2.out; omega⟩)
         have c3 := S3.out.F.P.cell 0 (by rw [HL.out]; omega)
         rw [← P0.out] at c3
         have d3 := S3.out.F.A.csi K0.out
         have f3 := MB.frozen S3.out.F.A 101
         have S4 := hid (show Fc w (V3.setCell ⟨w.heap.size, 101, none⟩ (.bool false)) m1 ps w1.heap.size V2.heap.size now was from by rw [M1.out]; exact S3.out.setSi K0.out false)
         rw [z8_eq] at hV
         rw [← hV]
         clear hV BB))
    obtain ⟨V4, hV4⟩ : ∃ V4, V4 = V3.setCell ⟨w.heap.size, 101, none⟩ (.bool false) := ⟨_, rfl⟩
    obtain ⟨gN, hgN⟩ : ∃ gN, gN = w1.heap.size := ⟨_, rfl⟩
    obtain ⟨gW, hgW⟩ : ∃ gW, gW = V2.heap.size := ⟨_, rfl⟩
    rw [← hV4, ← hgN, ← hgW] at S4
    rw [← hV4, ← hgN, ← hgW]
    clear hV4 hgN hgW c3 d3 f3 S3 N2 Z2 S2 S1 SX1 P0 M1
    go_loopw [6, 30] (fun ov iv wr => ∃ (k : Nat) (A : Option Addr) (c n : Nat), k ≤ 2 ∧ iv = .int .i64 k ∧ ov = .slice A n c ∧ Hid (n = 40 * k) ∧ Hid (Own wr (gW + 1) A c (frZ false was now ps m1 k)) ∧ Hid (Fc w wr (frK false was now ps m1 k) ps gN gW now was)) (fun _ iv _ => 2 - (intOf iv).toNat)
    case atStart => exact ⟨0, none, 0, 0, by omega, rfl, rfl, hid rfl, hid Own.nil, S4⟩
    case round =>
      clear S4
      obtain ⟨k, A, c, n, hk, rfl, rfl, HN, HO, HC⟩ := hrel
      by_cases hlt : k < 2
      · have KO := hid (KK.out k (by omega))
        have GO := hid (KG.out k (by omega))
        have KFk := hid (KF.out k hlt)
        have FL := hid (frA_len was now k)
        have Kn := hid (KK.out (k + 1) (by omega))
        have NM := hid (show frK false was now ps m1 (k + 1) = frP false (frA was now k) (frK false was now ps m1 k) (subL ps k) from rfl)
        have NZ := hid (show frZ false was now ps m1 (k + 1) = frZ false was now ps m1 k ++ frY false (frA was now k) (frK false was now ps m1 k) (subL ps k) from rfl)
        have YL := hid (frY_len false (frA was now k) (frK false was now ps m1 k) (subL ps k))
        have LZ := hid (show (frZ false was now ps m1 k).length = n from by rw [frZ_len, HN.out])
        have SI := hid (show (frK false was now ps m1 k).si = false from by rw [frK_si]; exact SI1.out)
        have UU := KU.out k hlt
        have GA := KA.out k hlt
        have KH := hid (fun W (h : Below w.heap.size w W) => show Calls Tryz.prog 46 #[.agg (frK false was now ps m1 k).cs.toArray, .agg (ints (frA was now k)).toArray, .agg (ints (subL ps k)).toArray] W (PlayA W (frP false (frA was now k) (frK false was now ps m1 k) (subL ps k)) (frY false (frA was now k) (frK false was now ps m1 k) (subL ps k))) from by
          have h1 := half_any (frK false was now ps m1 k) KO.out (frA was now k) (subL ps k) W (TT1.out.below h) (TT2.out.below h) (frA_len _ _ _) UU
          have h2 := frP_voice GO.out UU GA
          rw [h2.1, h2.2] at h1
          exact h1)
        have HSU := hid (fun W gg (h : IB W gg 38 ps) => show W.rangeAt gg (9 + k * 8) (ints (subL ps k)) from by
          have h2 := h.mid (9 + 8 * k) 8 (by rw [HL.out]; omega)
          rw [show 9 + 8 * k = 9 + k * 8 by omega] at h2
          unfold subL
          rw [show 9 + 8 * k = 9 + k * 8 by omega]
          exact h2)
        have HI35 := hid (show (Tryz.prog.info? 35).map (·.size) = some (ints (subL ps k)).length from by rw [ints_len, UU.l]; exact sizeSub)
        rw [NM.out] at Kn
        generalize frP false (frA was now k) (frK false was now ps m1 k) (subL ps k) = mn at *
        generalize frY false (frA was now k) (frK false was now ps m1 k) (subL ps k) = y at *
        generalize frA was now k = a at *
        generalize frK false was now ps m1 k = mk at *
        generalize frZ false was now ps m1 k = zs at *
        generalize subL ps k = su at *
        clear KF KK KG KU KA UU GA GO
        go_wp2_with (first
          | (refine wpList_loadI rfl 22 (.tmp 9) rfl _ 22 was 8 _ rfl HC.out.W Tryz.underlying22 rfl size8 WL.out ?_)
          | (refine wpList_loadI rfl 22 (.tmp 7) rfl _ 22 now 8 _ rfl HC.out.N Tryz.underlying22 rfl size8 NL.out ?_))
        with_reducible refine (KFk.out _).mono ?_
        rintro e w5 ⟨rfl, hB⟩
        have C5 := hid (HC.out.below hB)
        have O5 := hid (HO.out.below hB)
        have SX5 := hid C5.out.glt
        clear hB HC HO KFk
        go_wp2_with (first
          | (refine wpList_storeI rfl 90 (.tmp 11) (.tmp 36) rfl _ 90 Z9 a 9 rfl rfl (IB.new w5 90 Z9) size9 rfl FL.out ?_
             have BB := below_stored w5 (.cells (agi Z9) 90) (agi a)
             obtain ⟨V6, hV⟩ : ∃ V6, V6 = (w5.alloc (.cells (agi Z9) 90)).setRow w5.heap.size (agi a) := ⟨_, rfl⟩
             have C6 := hid (show Fc w V6 mk ps gN gW now was from by rw [hV]; exact C5.out.below BB)
             have A6 := hid (show IB V6 w5.heap.size 90 a from by rw [hV]; exact IB.stored w5 90 Z9 a)
             have O6 := hid (show Own V6 (gW + 1) A c zs from by rw [hV]; exact O5.out.below BB)
             have d6 := C6.out.F.A.csi KO.out
             rw [SI.out] at d6
             rw [z9_eq] at hV
             rw [← hV]
             clear hV BB))
        obtain ⟨gA, hgA⟩ : ∃ gA, gA = w5.heap.size := ⟨_, rfl⟩
        have GLT := hid (show gW < gA from by rw [hgA]; exact SX5.out)
        rw [← hgA] at A6
        rw [← hgA]
        clear hgA
        refine wp_region_ord [] [0, 1, 2, 3, 4, 5] 6 [7, 8, 9, 10, 11] (fun W => FrC w W mk ps gN gW now was gA a A c zs) (by kernel_rfl) (by kernel_rfl) rfl ⟨C6.out.below ((Below.refl _ _).drew), Blk.drew A6.out, O6.out.drew⟩ (fun _ _ d _ _ h => by cases d <;> exact h) ?_
        simp only [opsAt, List.getElem?_toArray, List.getElem?_cons_zero, List.getElem?_cons_succ]
        refine wpYields_nil ?_
        refine wpQuiet_step (fun K hK => ?_)
        refine quiet_mid (by rfl) 25 (.tmp 2) rfl w.heap.size 0 rfl mk.cs _ (fun W hW => MB.whole hW.C.F.A) Tryz.underlying25 rfl (by rw [sizeM, mk.len KO.out]) ?_
        refine hK _ ?_; clear hK K
        refine wpQuiet_step (fun K hK => ?_)
        refine quiet_mid (by rfl) 90 (.tmp 11) rfl gA 0 rfl (ints a) _ (fun W hW => range_of hW.F [] (ints a) [] (by simp) rfl) Tryz.underlying90 rfl (by rw [size9, ints_len, FL.out]) ?_
        refine hK _ ?_; clear hK K
        iterate 3
          refine wpQuiet_step (fun K hK => ?_)
          go_simp
          apply Exists.intro
          refine ⟨fun W hW => rfl, hK _ ?_⟩
          clear hK K
        refine wpQuiet_step (fun K hK => ?_)
        refine quiet_mid (by rfl) 35 (.tmp 57) rfl (w.heap.size + 1) (9 + k * 8) rfl (ints su) _ (fun W hW => HSU.out _ _ hW.C.F.P) Tryz.underlying35 rfl HI35.out ?_
        refine hK _ ?_; clear hK K
        refine wpQuiet_nil ?_
        intro W7 hW7
        have CW := hid hW7.C
        have OW := hid hW7.O
        clear hW7
        have SXW := hid (show gW < W7.heap.size from CW.out.glt)
        go_wp2_with (first
          | (go_at_call 46; (with_reducible refine (KH.out W7 CW.out.F.bel).mono ?_); rintro e w8 ⟨A2, c2, rfl, hO, hB⟩; have C8 := hid (CW.out.below hB); have O8 := hid (OW.out.below hB); have X8 := hid hO; clear hO hB; have C9 := hid (C8.out.setA (mm := mn)); have O9 := hid (O8.out.setRow (g := w.heap.size) (by have := C8.out.l1; have := C8.out.l2; omega) mn.ag); have X9 := hid (X8.out.setRow (g := w.heap.size) (by have := C8.out.l1; have := C8.out.l2; have := SXW.out; omega) mn.ag).reads; obtain ⟨V9, hV9⟩ : ∃ V9, V9 = w8.setRow w.heap.size mn.ag := ⟨_, rfl⟩; rw [← hV9] at C9 O9 X9; have HV9 := hid hV9; clear hV9; rw [YL.out])
          | (refine wpList_storeM rfl (.tmp 2) (.tmp 60) rfl _ mk mn rfl rfl C8.out.F.A KO.out Kn.out ?_; rw [← HV9.out]; clear HV9)
          | (at_builtin; refine wpList_catN rfl (.tmp 62) (.tmp 63) rfl (gW + 1) A c n zs rfl LZ.out O9.out V9.heap.size A2 c2 40 y rfl YL.out X9.out (by have := HN.out; omega) (by have := C9.out.glt; omega) ?_; intro A10 c10 w10 hO hG hA; have C10 := hid (C9.out.grown O9.out hG); have O10 := hid hO; clear hO hG hA))
        go_roundw
        case rel => exact ⟨k + 1, A10, c10, n + 40, by omega, by go_num, rfl, hid (by have := HN.out; omega), hid (by rw [NZ.out]; exact O10.out), hid (by rw [NM.out]; exact C10.out)⟩
        case measure => simp [intOf] <;> omega
      · obtain rfl : k = 2 := by omega
        obtain rfl : n = 80 := HN.out
        obtain ⟨mk, hmk⟩ : ∃ mk, mk = frK false was now ps m1 2 := ⟨_, rfl⟩
        have OKS := hid (show mk.ok from by rw [hmk]; exact KK.out 2 (Nat.le_refl _))
        have FZ := hid (FM.out mk hmk)
        have LO := hid (frO_len m ps)
        rw [← hmk] at HC
        rw [← FO.out _ rfl] at HO
        clear hmk FO FM KK KG KF KU KA
        generalize frO m ps = yf at *
        generalize frM m ps = mf at *
        have OKF := hid (show ({ mk with r := now, er := 0 } : Mm).ok from ⟨NL.out, OKS.out.p, OKS.out.e⟩)
        have S8 := hid (HC.out.F.setRf OKS.out now NL.out)
        have TH := hid (show wr.there w.heap.size 0 (agi now).size from by rw [agi_size, NL.out]; exact HC.out.F.A.thereR OKS.out)
        have O8 := hid (Own.setCs (g := w.heap.size) (by have := HC.out.l1; have := HC.out.l2; omega) (ints now) 0 _ HO.out)
        have GL := hid (show w.heap.size + 3 < gW + 1 from by have := HC.out.l1; have := HC.out.l2; omega)
        obtain ⟨V8, hV8⟩ : ∃ V8, V8 = wr.setCells w.heap.size 0 (ints now) := ⟨_, rfl⟩
        rw [← hV8] at S8 O8
        have HV8 := hid hV8
        have K8 := hid (show ({ mk with r := now } : Mm).ok from ⟨NL.out, OKS.out.p, OKS.out.e⟩)
        have d8 := S8.out.A.cer K8.out
        have f8 := MB.frozen S8.out.A 99
        have S9 := hid (show Fb w (V8.setCell ⟨w.heap.size, 99, none⟩ (.int .i64 0)) mf ps from by rw [FZ.out]; exact S8.out.setEr K8.out 0)
        have O9 := hid (Own.setC (g := w.heap.size) O8.out (by have := GL.out; omega) 99 (.int .i64 0))
        obtain ⟨V9, hV9⟩ : ∃ V9, V9 = V8.setCell ⟨w.heap.size, 99, none⟩ (.int .i64 0) := ⟨_, rfl⟩
        rw [← hV9] at S9 O9
        have HV9 := hid hV9.symm
        rw [← FZ.out] at OKF
        clear hV8 hV9
        go_wp2_with (first
          | (refine wpList_loadI rfl 22 (.tmp 7) rfl _ 22 now 8 _ rfl HC.out.N Tryz.underlying22 rfl size8 NL.out ?_)
          | (refine wpList_store_mid rfl 22 (.tmp 67) (.tmp 66) rfl w.heap.size 0 (agi now) rfl rfl TH.out SZ.out (agi_one _) ?_; rw [show (agi now).toList = ints now from rfl, ← HV8.out])
          | (rw [HV9.out]; clear HV9 d8 f8)
          | (refine wpList_loadM rfl (.tmp 2) rfl _ mf rfl S9.out.A OKF.out ?_)
          | (refine wpList_storeM rfl (.tmp 4) (.tmp 69) rfl _ zeroM mf rfl rfl S9.out.R zeroM_ok OKF.out ?_))
        refine bodyPost_ret (v := _) (hR _ _ _ mf rfl (MB.setRow S9.out.R mf) OKF.out) rfl ?_
        exact ⟨A, c, by rw [LO.out]; rfl, (O9.out.setRow (g := w.heap.size + 2) (by have := GL.out; omega) mf.ag).more (base' := w.heap.size) (by have := GL.out; omega), below_setRow S9.out.bel (g := w.heap.size + 2) (by omega) mf.ag⟩
  · have e0 := hid (show m0 = m from by rw [M0.out]; unfold fr0; rw [← P0.out, if_neg (by decide)])
    have eq0 := hid (show q = true from by rw [HQ.out]; unfold frQ; rw [← P0.out]; decide)
    have e0 := e0.out
    subst e0
    have eq0 := eq0.out
    subst eq0
    clear M0 HQ
    go_enter Tryz.func24, Tryz.ntmps24
    go_wp2_with (first
      | (rw [HV.out]; clear HV)
      | (refine wpList_load_mid rfl 22 (.tmp 19) rfl _ _ rfl (ints rp) _ (HRP.out _ _ S0.out.P) Tryz.underlying22 rfl HI8.out ?_))
    with_reducible refine (KV.out V S0.out.bel).mono ?_
    rintro e w1 ⟨rfl, hB⟩
    have S1 := hid (S0.out.below hB)
    clear hB S0 KV c0
    have SX1 := hid S1.out.lt
    go_wp2_with (first
      | (refine wpList_storeI rfl 22 (.tmp 7) (.tmp 22) rfl _ 22 Z8 now 8 rfl rfl (IB.new w1 22 Z8) size8 rfl NL.out ?_
         have BB := below_stored w1 (.cells (agi Z8) 22) (agi now)
         obtain ⟨V2, hV⟩ : ∃ V2, V2 = (w1.alloc (.cells (agi Z8) 22)).setRow w1.heap.size (agi now) := ⟨_, rfl⟩
         have S2 := hid (show Fb w V2 m0 ps from by rw [hV]; exact S1.out.below BB)
         have N2 := hid (show IB V2 w1.heap.size 22 now from by rw [hV]; exact IB.stored w1 22 Z8 now)
         have Z2 := hid (show w1.heap.size < V2.heap.size from Blk.lt N2.out)
         rw [z8_eq] at hV
         rw [← hV]
         clear hV BB)
      | (refine wpList_load_mid rfl 22 (.tmp 24) rfl _ _ rfl (ints m0.r) _ (S2.out.A.R K0.out) Tryz.underlying22 rfl HI8'.out ?_; rw [show (ints m0.r).toArray = agi was from by rw [HW.out]; rfl])
      | (refine wpList_storeI rfl 22 (.tmp 9) (.tmp 25) rfl _ 22 Z8 was 8 rfl rfl (IB.new V2 22 Z8) size8 rfl WL.out ?_
         have BB := below_stored V2 (.cells (agi Z8) 22) (agi was)
         obtain ⟨V3, hV⟩ : ∃ V3, V3 = (V2.alloc (.cells (agi Z8) 22)).setRow V2.heap.size (agi was) := ⟨_, rfl⟩
         have S3 := hid (show Fc w V3 m0 ps w1.heap.size V2.heap.size now was from by rw [hV]; exact ⟨S2.out.below BB, Blk.below' N2.out BB, IB.stored V2 22 Z8 was, by have := SX1.out; omega, by have := Z2.out; omega⟩)
         have c3 := S3.out.F.P.cell 0 (by rw [HL.out]; omega)
         rw [← P0.out] at c3
         have d3 := S3.out.F.A.csi K0.out
         have f3 := MB.frozen S3.out.F.A 101
         have S4 := hid (show Fc w (V3.setCell ⟨w.heap.size, 101, none⟩ (.bool true)) m1 ps w1.heap.size V2.heap.size now was from by rw [M1.out]; exact S3.out.setSi K0.out true)
         rw [z8_eq] at hV
         rw [← hV]
         clear hV BB))
    obtain ⟨V4, hV4⟩ : ∃ V4, V4 = V3.setCell ⟨w.heap.size, 101, none⟩ (.bool true) := ⟨_, rfl⟩
    obtain ⟨gN, hgN⟩ : ∃ gN, gN = w1.heap.size := ⟨_, rfl⟩
    obtain ⟨gW, hgW⟩ : ∃ gW, gW = V2.heap.size := ⟨_, rfl⟩
    rw [← hV4, ← hgN, ← hgW] at S4
    rw [← hV4, ← hgN, ← hgW]
    clear hV4 hgN hgW c3 d3 f3 S3 N2 Z2 S2 S1 SX1 P0 M1
    go_loopw [6, 30] (fun ov iv wr => ∃ (k : Nat) (A : Option Addr) (c n : Nat), k ≤ 2 ∧ iv = .int .i64 k ∧ ov = .slice A n c ∧ Hid (n = 40 * k) ∧ Hid (Own wr (gW + 1) A c (frZ true was now ps m1 k)) ∧ Hid (Fc w wr (frK true was now ps m1 k) ps gN gW now was)) (fun _ iv _ => 2 - (intOf iv).toNat)
    case atStart => exact ⟨0, none, 0, 0, by omega, rfl, rfl, hid rfl, hid Own.nil, S4⟩
    case round =>
      clear S4
      obtain ⟨k, A, c, n, hk, rfl, rfl, HN, HO, HC⟩ := hrel
      by_cases hlt : k < 2
      · have KO := hid (KK.out k (by omega))
        have GO := hid (KG.out k (by omega))
        have KFk := hid (KF.out k hlt)
        have FL := hid (frA_len was now k)
        have Kn := hid (KK.out (k + 1) (by omega))
        have NM := hid (show frK true was now ps m1 (k + 1) = frP true (frA was now k) (frK true was now ps m1 k) (subL ps k) from rfl)
        have NZ := hid (show frZ true was now ps m1 (k + 1) = frZ true was now ps m1 k ++ frY true (frA was now k) (frK true was now ps m1 k) (subL ps k) from rfl)
        have YL := hid (frY_len true (frA was now k) (frK true was now ps m1 k) (subL ps k))
        have LZ := hid (show (frZ true was now ps m1 k).length = n from by rw [frZ_len, HN.out])
        have SI := hid (show (frK true was now ps m1 k).si = true from by rw [frK_si]; exact SI1.out)
        have UU := KU.out k hlt
        have GA := KA.out k hlt
        have h2 := frP_still (a := frA was now k) GO.out UU GA
        have KS := hid (fun W => show Calls Tryz.prog 67 #[.agg (frK true was now ps m1 k).ag] W (NewM W (frN true (frK true was now ps m1 k) (subL ps k)) (frX true (frK true was now ps m1 k) (subL ps k)) (errOf (goodM (frK true was now ps m1 k)))) from by
          have h1 := silent_any (frK true was now ps m1 k) KO.out W
          rw [h2.1, h2.2.1] at h1
          exact h1)
        have OKM := hid (frN_ok true KO.out UU)
        have XL := hid (frX_len true (frK true was now ps m1 k) UU)
        have KP := hid (fun W A2 c2 (h : Rs W W.heap.size A2 (frX true (frK true was now ps m1 k) (subL ps k))) => show Calls Tryz.prog 68 #[.agg (frN true (frK true was now ps m1 k) (subL ps k)).ag, .agg (agi (frA was now k)), .slice A2 40 c2] W (PlayA W (frP true (frA was now k) (frK true was now ps m1 k) (subL ps k)) (frY true (frA was now k) (frK true was now ps m1 k) (subL ps k))) from by
          have h1 := play_any (frN true (frK true was now ps m1 k) (subL ps k)) OKM.out (frA was now k) _ A2 c2 40 W (frA_len _ _ _) h XL.out (by omega)
          rw [h2.2.2.1, h2.2.2.2] at h1
          exact h1)
        clear h2
        generalize frN true (frK true was now ps m1 k) (subL ps k) = mm at *
        generalize frX true (frK true was now ps m1 k) (subL ps k) = xs at *
        generalize errOf (goodM (frK true was now ps m1 k)) = er at *
        rw [NM.out] at Kn
        generalize frP true (frA was now k) (frK true was now ps m1 k) (subL ps k) = mn at *
        generalize frY true (frA was now k) (frK true was now ps m1 k) (subL ps k) = y at *
        generalize frA was now k = a at *
        generalize frK true was now ps m1 k = mk at *
        generalize frZ true was now ps m1 k = zs at *
        generalize subL ps k = su at *
        clear KF KK KG KU KA UU GA GO
        go_wp2_with (first
          | (refine wpList_loadI rfl 22 (.tmp 9) rfl _ 22 was 8 _ rfl HC.out.W Tryz.underlying22 rfl size8 WL.out ?_)
          | (refine wpList_loadI rfl 22 (.tmp 7) rfl _ 22 now 8 _ rfl HC.out.N Tryz.underlying22 rfl size8 NL.out ?_))
        with_reducible refine (KFk.out _).mono ?_
        rintro e w5 ⟨rfl, hB⟩
        have C5 := hid (HC.out.below hB)
        have O5 := hid (HO.out.below hB)
        have SX5 := hid C5.out.glt
        clear hB HC HO KFk
        go_wp2_with (first
          | (refine wpList_storeI rfl 90 (.tmp 11) (.tmp 36) rfl _ 90 Z9 a 9 rfl rfl (IB.new w5 90 Z9) size9 rfl FL.out ?_
             have BB := below_stored w5 (.cells (agi Z9) 90) (agi a)
             obtain ⟨V6, hV⟩ : ∃ V6, V6 = (w5.alloc (.cells (agi Z9) 90)).setRow w5.heap.size (agi a) := ⟨_, rfl⟩
             have C6 := hid (show Fc w V6 mk ps gN gW now was from by rw [hV]; exact C5.out.below BB)
             have A6 := hid (show IB V6 w5.heap.size 90 a from by rw [hV]; exact IB.stored w5 90 Z9 a)
             have O6 := hid (show Own V6 (gW + 1) A c zs from by rw [hV]; exact O5.out.below BB)
             have d6 := C6.out.F.A.csi KO.out
             rw [SI.out] at d6
             rw [z9_eq] at hV
             rw [← hV]
             clear hV BB)
          | (refine wpList_loadM rfl (.tmp 2) rfl _ mk rfl C6.out.F.A KO.out ?_))
        with_reducible refine (KS.out V6).mono ?_
        rintro e w7 ⟨A7, c7, rfl, hO, hB⟩
        have C7 := hid (C6.out.below hB)
        have F7 := hid (Blk.below' A6.out hB)
        have O7 := hid (O6.out.below hB)
        have X7 := hid hO
        have SX6 := hid C6.out.glt
        have SX8 := hid hB.size
        clear hO hB KS
        have C8 := hid (C7.out.setA (mm := mm))
        have F8 := hid (show IB (w7.setRow w.heap.size mm.ag) w5.heap.size 90 a from Blk.rowFar F7.out (by have := C7.out.l1; have := C7.out.l2; have := SX5.out; omega))
        have O8 := hid (O7.out.setRow (g := w.heap.size) (by have := C7.out.l1; have := C7.out.l2; omega) mm.ag)
        have X8 := hid (X7.out.setRow (g := w.heap.size) (by have := C7.out.l1; have := C7.out.l2; have := SX6.out; omega) mm.ag).reads
        obtain ⟨V8, hV8⟩ : ∃ V8, V8 = w7.setRow w.heap.size mm.ag := ⟨_, rfl⟩
        rw [← hV8] at C8 F8 O8 X8
        have HV8 := hid hV8
        clear hV8
        rw [XL.out]
        go_wp2_with (first
          | (refine wpList_storeM rfl (.tmp 2) (.tmp 42) rfl _ mk mm rfl rfl C7.out.F.A KO.out OKM.out ?_; rw [← HV8.out]; clear HV8)
          | (refine wpList_loadM rfl (.tmp 2) rfl _ mm rfl C8.out.F.A OKM.out ?_)
          | (refine wpList_loadI rfl 90 (.tmp 11) rfl _ 90 a 9 _ rfl F8.out Tryz.underlying90 rfl size9 FL.out ?_))
        with_reducible refine (KP.out V8 A7 c7 X8.out).mono ?_
        rintro e w9 ⟨A2, c2, rfl, hO, hB⟩
        have C9 := hid (C8.out.below hB)
        have O9 := hid (O8.out.below hB)
        have X9 := hid hO
        have SX9 := hid C8.out.glt
        clear hO hB KP C6 C7 C8 O6 O7 O8 X7 X8 F7 F8 A6 O5 C5 d6
        have C10 := hid (C9.out.setA (mm := mn))
        have O10 := hid (O9.out.setRow (g := w.heap.size) (by have := C9.out.l1; have := C9.out.l2; omega) mn.ag)
        have X10 := hid (X9.out.setRow (g := w.heap.size) (by have := C9.out.l1; have := C9.out.l2; have := SX9.out; omega) mn.ag).reads
        obtain ⟨V10, hV10⟩ : ∃ V10, V10 = w9.setRow w.heap.size mn.ag := ⟨_, rfl⟩
        rw [← hV10] at C10 O10 X10
        have HV10 := hid hV10
        clear hV10
        rw [YL.out]
        go_wp2_with (first
          | (refine wpList_storeM rfl (.tmp 2) (.tmp 50) rfl _ mm mn rfl rfl C9.out.F.A OKM.out Kn.out ?_; rw [← HV10.out]; clear HV10)
          | (at_builtin; refine wpList_catN rfl (.tmp 62) (.tmp 63) rfl (gW + 1) A c n zs rfl LZ.out O10.out V10.heap.size A2 c2 40 y rfl YL.out X10.out (by have := HN.out; omega) (by have := C10.out.glt; omega) ?_; intro A11 c11 w11 hO hG hA; have C11 := hid (C10.out.grown O10.out hG); have O11 := hid hO; clear hO hG hA))
        go_roundw
        case rel => exact ⟨k + 1, A11, c11, n + 40, by omega, by go_num, rfl, hid (by have := HN.out; omega), hid (by rw [NZ.out]; exact O11.out), hid (by rw [NM.out]; exact C11.out)⟩
        case measure => simp [intOf] <;> omega
      · obtain rfl : k = 2 := by omega
        obtain rfl : n = 80 := HN.out
        obtain ⟨mk, hmk⟩ : ∃ mk, mk = frK true was now ps m1 2 := ⟨_, rfl⟩
        have OKS := hid (show mk.ok from by rw [hmk]; exact KK.out 2 (Nat.le_refl _))
        have FZ := hid (FM.out mk hmk)
        have LO := hid (frO_len m0 ps)
        rw [← hmk] at HC
        rw [← FO.out _ rfl] at HO
        clear hmk FO FM KK KG KF KU KA
        generalize frO m0 ps = yf at *
        generalize frM m0 ps = mf at *
        have OKF := hid (show ({ mk with r := now, er := 0 } : Mm).ok from ⟨NL.out, OKS.out.p, OKS.out.e⟩)
        have S8 := hid (HC.out.F.setRf OKS.out now NL.out)
        have TH := hid (show wr.there w.heap.size 0 (agi now).size from by rw [agi_size, NL.out]; exact HC.out.F.A.thereR OKS.out)
        have O8 := hid (Own.setCs (g := w.heap.size) (by have := HC.out.l1; have := HC.out.l2; omega) (ints now) 0 _ HO.out)
        have GL := hid (show w.heap.size + 3 < gW + 1 from by have := HC.out.l1; have := HC.out.l2; omega)
        obtain ⟨V8, hV8⟩ : ∃ V8, V8 = wr.setCells w.heap.size 0 (ints now) := ⟨_, rfl⟩
        rw [← hV8] at S8 O8
        have HV8 := hid hV8
        have K8 := hid (show ({ mk with r := now } : Mm).ok from ⟨NL.out, OKS.out.p, OKS.out.e⟩)
        have d8 := S8.out.A.cer K8.out
        have f8 := MB.frozen S8.out.A 99
        have S9 := hid (show Fb w (V8.setCell ⟨w.heap.size, 99, none⟩ (.int .i64 0)) mf ps from by rw [FZ.out]; exact S8.out.setEr K8.out 0)
        have O9 := hid (Own.setC (g := w.heap.size) O8.out (by have := GL.out; omega) 99 (.int .i64 0))
        obtain ⟨V9, hV9⟩ : ∃ V9, V9 = V8.setCell ⟨w.heap.size, 99, none⟩ (.int .i64 0) := ⟨_, rfl⟩
        rw [← hV9] at S9 O9
        have HV9 := hid hV9.symm
        rw [← FZ.out] at OKF
        clear hV8 hV9
        go_wp2_with (first
          | (refine wpList_loadI rfl 22 (.tmp 7) rfl _ 22 now 8 _ rfl HC.out.N Tryz.underlying22 rfl size8 NL.out ?_)
          | (refine wpList_store_mid rfl 22 (.tmp 67) (.tmp 66) rfl w.heap.size 0 (agi now) rfl rfl TH.out SZ.out (agi_one _) ?_; rw [show (agi now).toList = ints now from rfl, ← HV8.out])
          | (rw [HV9.out]; clear HV9 d8 f8)
          | (refine wpList_loadM rfl (.tmp 2) rfl _ mf rfl S9.out.A OKF.out ?_)
          | (refine wpList_storeM rfl (.tmp 4) (.tmp 69) rfl _ zeroM mf rfl rfl S9.out.R zeroM_ok OKF.out ?_))
        refine bodyPost_ret (v := _) (hR _ _ _ mf rfl (MB.setRow S9.out.R mf) OKF.out) rfl ?_
        exact ⟨A, c, by rw [LO.out]; rfl, (O9.out.setRow (g := w.heap.size + 2) (by have := GL.out; omega) mf.ag).more (base' := w.heap.size) (by have := GL.out; omega), below_setRow S9.out.bel (g := w.heap.size + 2) (by omega) mf.ag⟩
end Go.Proofs.YthoiikkjjaldnaaGreatDoor

/- A region that draws its order, walked once, where every world of a class serves: loads of boxes and calls whose contracts keep the class. -/
namespace Go.Proofs.YthoiikkjjaldnaaGreatDoor
set_option linter.unusedVariables false
set_option linter.unusedSimpArgs false
set_option maxRecDepth 100000
open Go.RowKit

theorem wp_region_quietC {P : Program} (C : World → Prop) {id : Nat} {Q : Exit → Act → World → Prop} {a : Act} {w : World} {l : List Oper} (hm : P.follows .mixedOrders = true) (hB : Region.lexB .any l.toArray = true) (hC : C w.drew)
    (h : wpQuiet P l.toArray C (fun a' => ∀ w', C w' → Q .normal a' w') l a) : (Code.region id l.toArray true).wp P Q a w :=
  wp_region_quiet (C := C) hm hB hC (by simpa using h)
theorem quiet_loadI {ops : Array Oper} {C : World → Prop} {o : Oper} {a : Act} {K : Act → Prop} (hw : Region.wanted o (yielded ops a.tmps) = true) (ty : TypeId) (x : Operand) (ho : o.op = .load ty x)
    (g : Nat) (t : TypeId) (xs : List Int) (n : Nat) (d : TypeDesc) (hx : a.eval x = .pointer (some ⟨g, 0, none⟩)) (hC : ∀ W, C W → IB W g t xs) (hu : Tryz.prog.underlying ty = some d) (hd : isAggD d = true)
    (hi : (Tryz.prog.info? ty).map (·.size) = some n) (hl : xs.length = n) (k : K (a.put o.dst (.agg (agi xs)))) :
    if Region.wanted o (yielded ops a.tmps) then o.quiet Tryz.prog a C K else K (a.put o.dst undef) := by
  rw [if_pos hw]
  refine ⟨_, fun W hW => ?_, k⟩
  have h := IB.load (hC W hW) hu hd hi hl
  unfold Oper.quietAt execOp
  simp only [ho, hx, Sem.run_bind, h, Result.andThen_ok, Sem.run_pure]
  exact ⟨rfl, rfl⟩
end Go.Proofs.YthoiikkjjaldnaaGreatDoor

/- The walk of the program's Pack of a packet. -/
namespace Go.Proofs.YthoiikkjjaldnaaGreatDoor
set_option linter.unusedVariables false
set_option linter.unusedSimpArgs false
set_option maxRecDepth 100000
open Go.RowKit

theorem size25d : (Tryz.prog.info? 38).map (·.size) = some 25 := by kernel_rfl
theorem made_bytes (n : Nat) : (madeCells (Value.int .u8 0).cells (n * 1)).toList = bts (List.replicate n 0) := by
  rw [Nat.mul_one]
  show (madeCells #[Value.int .u8 0] n).toList = _
  rw [toList_madeCells_one]
  simp [bts]
theorem wpList_makeB {ops : Array Oper} {rest : List Oper} {o : Oper} {a : Act} {w : World} {Q : Exit → Act → World → Prop} (hgd : o.guard = none) (l c : Operand)
    (ho : o.op = .makeSlice 26 l c) (kl kc : IntKind) (n : Nat) (hl : a.eval l = .int kl (n : Int)) (hc : a.eval c = .int kc (n : Int)) (base : Nat) (hn : n ≤ 17592186044416) (hbase : base ≤ w.heap.size)
    (h : ∀ w1, OwnB w1 base (some ⟨w.heap.size, 0, none⟩) n (List.replicate n 0) → w.grownBy w1 none → wpList Tryz.prog ops Q rest (a.put o.dst (.slice (some ⟨w.heap.size, 0, none⟩) n n)) w1) :
    wpList Tryz.prog ops Q (o :: rest) a w := by
  obtain ⟨i0, hi, hz0, hz1, hz2⟩ := info_parts infoB
  refine wpList_make_full w hgd l c 26 ho base 5 i0 (.int .u8 0) 1 Tryz.underlying26 hi hz0 hz1 kl kc (n : Int) (n : Int) n hl hc rfl rfl (by rw [hz2]; omega) (by unfold maxLen; omega) hbase ?_
  intro w1 hown hgrow
  refine h w1 ?_ hgrow
  unfold OwnB
  rw [List.length_replicate]
  rw [← made_bytes]
  simpa using hown
theorem OwnB.blk {w : World} {base g : Nat} {xs : List Int} (h : OwnB w base (some ⟨g, 0, none⟩) xs.length xs) (hn : 0 < xs.length) : Blk w g 5 (bts xs).toArray := by
  rcases h.2 with ⟨_, h0⟩ | ⟨g', cap, cur, hv, _, hg, h1, _, h3, h4⟩
  · omega
  · injection hv with hA _ hc
    injection hA with hA
    injection hA with hA _ _
    subst hA
    subst hc
    have e : cur = (bts xs).toArray := by
      have h5 : cur.toList.length = xs.length := by simpa using h3
      have h6 : cur.toList.take xs.length = bts xs := by simpa using h4
      rw [List.take_of_length_le (by omega)] at h6
      rw [← h6]
    rw [← e]
    exact hg
theorem pkL_zero : pkL 0 = List.replicate 15 0 := by decide
theorem TwoP.cell {g h : Nat} {w w1 : World} (a : TwoP g h w w1) {p : Addr} {v : Value} (hc : w.cell? p = some v) (h1 : p.block ≠ g) (h2 : p.block ≠ h) : w1.cell? p = some v := by
  have hlt : p.block < w.heap.size := by
    rcases Nat.lt_or_ge p.block w.heap.size with h3 | h3
    · exact h3
    · unfold World.cell? at hc
      rw [Array.getElem?_eq_none h3] at hc
      simp at hc
  have := a.keep p.block hlt h1 h2
  unfold World.cell? at *
  rw [this]
  exact hc
theorem Pst.size {gb gB gA V n : Nat} {W : World} (s : Pst gb gB gA V n W) : gA < W.heap.size := Blk.lt s.A
theorem cell_lt3 {w : World} {p : Addr} {v : Value} (h : w.cell? p = some v) : p.block < w.heap.size := by
  rcases Nat.lt_or_ge p.block w.heap.size with h1 | h1
  · exact h1
  · unfold World.cell? at h
    rw [Array.getElem?_eq_none h1] at h
    simp at h
/-- A block of bytes read as a slice, and its first fourteen. -/
theorem rb_all {w : World} {g : Nat} {xs : List Int} (h : Blk w g 5 (bts xs).toArray) : Rb w w.heap.size (some ⟨g, 0, none⟩) xs :=
  ⟨by rw [bts_len, Nat.mul_one], fun _ => ⟨_, rfl, Blk.lt h, fun j u hj => by rw [add_zero', Blk.cell h j]; simpa using hj⟩⟩
theorem rb_head {w : World} {g V : Nat} (h : Blk w g 5 (bts (pkL V)).toArray) : Rb w w.heap.size (some ⟨g, 0, none⟩) (digL V) :=
  ⟨by rw [bts_len, Nat.mul_one], fun _ => ⟨_, rfl, Blk.lt h, fun j u hj => by
    have hj2 : j < (bts (digL V)).length := (List.getElem?_eq_some_iff.1 hj).1
    rw [add_zero', Blk.cell h j, ← hj]
    unfold pkL
    rw [← bts_append, List.getElem?_toArray, List.getElem?_append_left hj2]⟩⟩
/-- What Pack answers. -/
def PkOut (ps : List Int) (w : World) (e : Ending) (w' : World) : Prop := ∃ A c, e = .returned (.tuple #[.slice A (pkBytes ps).length c, .int .i64 (pkErr ps)]) ∧ OwnB w' w.heap.size A c (pkBytes ps) ∧ Below w.heap.size w w'
theorem ownB_of_blk {w : World} {base g : Nat} {xs : List Int} (h : Blk w g 5 (bts xs).toArray) (hb : base ≤ g) (hl : xs.length ≤ 1000) : OwnB w base (some ⟨g, 0, none⟩) xs.length xs :=
  ⟨by rw [bts_len, Nat.mul_one], .inr ⟨g, xs.length, (bts xs).toArray, rfl, hb, h, Nat.le_refl _, by unfold maxLen; omega, by simp [bts_len], by rw [Nat.mul_one]; show (bts xs).take xs.length = bts xs; rw [List.take_of_length_le (by rw [bts_len]; exact Nat.le_refl _)]⟩⟩
theorem ownB_of_blkN {w : World} {base g n : Nat} {xs : List Int} (hn : xs.length = n) (h : Blk w g 5 (bts xs).toArray) (hb : base ≤ g) (hl : n ≤ 1000) : OwnB w base (some ⟨g, 0, none⟩) n xs := by
  subst hn
  exact ownB_of_blk h hb hl
theorem OwnB.more {w : World} {base base' c : Nat} {A : Option Addr} {xs : List Int} (h : OwnB w base A c xs) (hb : base' ≤ base) : OwnB w base' A c xs := by
  refine ⟨h.1, ?_⟩
  rcases h.2 with hn | ⟨g, cap, cur, hv, hbb, rest⟩
  · exact .inl hn
  · exact .inr ⟨g, cap, cur, hv, by omega, rest⟩

set_option maxHeartbeats 4000000 in
theorem packPack_any (ps : List Int) (w : World) (T : TabA w 3 widthL) (hl : ps.length = 25) (hw : W64 ps) :
    Calls Tryz.prog 47 #[.agg (agi ps)] w (PkOut ps w) := by
  have hmf : ∀ (fn : Fn) (first cap : Array Value) (w : World), (Instr.makeFunc fn first cap).run Tryz.prog w = .ok (.func fn first cap) w := fun _ _ _ _ => rfl
  have P0 := hid (IB.new w 38 ps)
  have B0 := hid ((Below.refl w.heap.size w).alloc (Nat.le_refl _) (.cells (agi ps) 38))
  have T0 := hid (T.below B0.out)
  have HL := hid hl
  obtain ⟨V, hV⟩ : ∃ V, V = w.alloc (.cells (agi ps) 38) := ⟨_, rfl⟩
  rw [← hV] at P0 B0 T0
  have HV := hid hV
  have KG := hid (packGood_any ps V T0.out hl)
  have KP := hid (fun W => packParity_any ps W hl hw)
  clear T hl hw hV
  by_cases hg : pkTo ps 25 = true
  · have HG := hid hg
    have HBY := hid (show pkBytes ps = digL (pkW ps) ++ [chk (digL (pkW ps))] from if_pos hg)
    have HER := hid (show pkErr ps = 0 from if_pos hg)
    rw [hg] at KG
    clear hg
    go_enter Tryz.func47, Tryz.ntmps47
    go_wp2_with (first
      | (rw [← HV.out]; clear HV)
      | (refine wpList_loadI rfl 38 (.tmp 1) rfl _ 38 ps 25 _ rfl P0.out Tryz.underlying38 rfl size25d HL.out ?_)
      | (go_at_call 65; (with_reducible refine KG.out.mono ?_); rintro e w1 ⟨rfl, hB⟩; have P1 := hid (Blk.below' P0.out hB); have T1 := hid (T0.out.below hB); have B1 := hid (B0.out.trans (hB.mono B0.out.size)); clear hB)
      | (at_make; refine wpList_makeB rfl _ _ rfl .i64 .i64 15 rfl rfl w1.heap.size (by omega) (Nat.le_refl _) ?_; intro w2 hO hG; have G2 := hid (OwnB.blk hO (by simp)); have L2 := hid ((Below.refl w1.heap.size w1).grown hG (Nat.le_refl _) (by simp)); have P2 := hid (Blk.below' P1.out L2.out); have T2 := hid (T1.out.below L2.out); have B2 := hid (B1.out.trans (L2.out.mono B1.out.size)); clear hO hG))
    obtain ⟨W3, hW3⟩ : ∃ W3, W3 = ((w2.alloc (.cells #[.slice (some ⟨w1.heap.size, 0, none⟩) 15 15] 26)).alloc (.cells #[.int .i64 0] 3)) := ⟨_, rfl⟩
    have LA : Below w2.heap.size w2 W3 := by rw [hW3]; exact ((Below.refl w2.heap.size w2).alloc (Nat.le_refl _) _).alloc (by simp) _
    have HS2 := hid (show w1.heap.size < w2.heap.size from Blk.lt G2.out)
    have S3 := hid (show Pst w1.heap.size w2.heap.size (w2.heap.size + 1) 0 0 W3 from
      ⟨by rw [pkL_zero]; exact Blk.below' G2.out LA, by rw [hW3]; exact Blk.alloc (Blk.new w2 _ _) _, by
        have h := Blk.new (w2.alloc (.cells #[.slice (some ⟨w1.heap.size, 0, none⟩) 15 15] 26)) 3 #[.int .i64 0]
        simp only [World.size_alloc] at h
        rw [hW3]; exact h, HS2.out, Nat.lt_succ_self _⟩)
    have P3 := hid (Blk.below' P2.out LA)
    have T3 := hid (T2.out.below LA)
    have B3 := hid (B2.out.trans (LA.mono B2.out.size))
    rw [← hW3]
    have HW1 := hid (show w.heap.size < w1.heap.size from Blk.lt P1.out)
    clear LA hW3
    refine (fields_any w.heap.size W3 T3.out).mono ?_
    rintro e w4 ⟨A, c, rfl, hO, hB⟩
    obtain ⟨b, rfl, hb1, hb2, hb3⟩ := OwnF.at_ hO (by omega)
    have HB2 := hid hb2
    have HC := hid hb3
    have P4 := hid (Blk.below' P3.out hB)
    have B4 := hid (B3.out.trans (hB.mono B3.out.size))
    have S4 := hid (S3.out.below hB)
    have T4 := hid (T3.out.below hB)
    have LB3 := hid (show w2.heap.size + 1 < b from by have := S3.out.size; omega)
    clear hO hB hb1 hb2 hb3 T0 T1 T2 T3 P0 P1 P2 P3 B0 B1 B2 B3 G2 L2 S3
    go_wp2
    go_loopw [16] (fun iv wr => ∃ i : Nat, i ≤ 25 ∧ iv = .int .i64 i ∧ Hid (Pst w1.heap.size w2.heap.size (w2.heap.size + 1) (pkV ps i) (pkA i) wr) ∧ Hid (TwoP w1.heap.size (w2.heap.size + 1) w4 wr)) (fun iv _ => 25 - (intOf iv).toNat)
    case atStart => exact ⟨0, by omega, rfl, S4, hid (TwoP.refl _ _ _)⟩
    case round =>
      clear S4
      obtain ⟨i, hi, rfl, HS, HT⟩ := hrel
      by_cases hlt : i < 25
      · obtain ⟨f0, f1, f2⟩ := HC.out i hlt
        have hs12 := HS2.out
        have hs1 := HW1.out
        have hlb := LB3.out
        have nb1 : b ≠ w1.heap.size := by omega
        have nb2 : b ≠ w2.heap.size + 1 := by omega
        have np1 : w.heap.size ≠ w1.heap.size := by omega
        have np2 : w.heap.size ≠ w2.heap.size + 1 := by omega
        have c0 : wr.cell? ⟨b, i * 3, none⟩ = some (.pointer (some ⟨w.heap.size, i, none⟩)) := by rw [Nat.mul_comm]; exact HT.out.cell f0 nb1 nb2
        have c1 : wr.cell? ⟨b, i * 3 + 1, none⟩ = some (.int .i64 (pkB.getD i 0)) := by rw [Nat.mul_comm]; exact HT.out.cell f1 nb1 nb2
        have c2 : wr.cell? ⟨b, i * 3 + 2, none⟩ = some (.int .i64 (pkT.getD i 0)) := by rw [Nat.mul_comm]; exact HT.out.cell f2 nb1 nb2
        have p0 : wr.cell? ⟨w.heap.size, i, none⟩ = some (.int .i64 (ps.getD i 0)) := HT.out.cell (IB.cell P4.out i (by rw [HL.out]; exact hlt)) np1 np2
        obtain ⟨hv1, hv2⟩ := pk_lt HG.out hlt
        obtain ⟨hn1, hn2, _⟩ := pkN_le hlt
        have ha := pkA_le (n := i + 1) (by omega)
        have SX := hid (show pkV ps (i + 1) = pkV ps i ||| (ps.getD i 0).toNat <<< (112 - pkA i - pkN i) from rfl)
        have SY := hid (show pkA (i + 1) = pkA i + pkN i from rfl)
        rw [SY.out] at ha
        rw [hv2] at p0
        rw [hn2] at c1
        generalize (ps.getD i 0).toNat = v at *
        generalize pkN i = n at *
        generalize pkT.getD i 0 = t at *
        have hbl := (cell_lt3 c0)
        have hpl := (cell_lt3 p0)
        have i0 : (0 : Int) ≤ i := by omega
        have i25 : (i : Int) < 25 := by omega
        obtain ⟨W, hW⟩ : ∃ W, W = wr.alloc (.cells #[.pointer (some ⟨w.heap.size, i, none⟩), .int .i64 (n : Nat), .int .i64 t] 122) := ⟨_, rfl⟩
        have LW : Below wr.heap.size wr W := by rw [hW]; exact (Below.refl _ _).alloc (Nat.le_refl _) _
        have q0 : W.cell? ⟨wr.heap.size, 0, none⟩ = some (.pointer (some ⟨w.heap.size, i, none⟩)) := by rw [hW]; exact Blk.cell (Blk.new wr _ _) 0
        have q1 : W.cell? ⟨wr.heap.size, 1, none⟩ = some (.int .i64 (n : Nat)) := by rw [hW]; exact Blk.cell (Blk.new wr _ _) 1
        have qx : W.cell? ⟨w.heap.size, i, none⟩ = some (.int .i64 (v : Nat)) := (LW.cell (p := ⟨w.heap.size, i, none⟩) hpl).trans p0
        have SW := hid (HS.out.below LW)
        have TW := hid (HT.out.trans (TwoP.of_below LW))
        have hgl := HS.out.size
        have nr1 : wr.heap.size ≠ w1.heap.size := by omega
        have nr2 : wr.heap.size ≠ w2.heap.size + 1 := by omega
        have KU := hid (put_any w1.heap.size w2.heap.size (w2.heap.size + 1) (pkV ps i) (pkA i) v n W.drew SW.out.drew (by omega) hv1 (by omega))
        clear f0 f1 f2 hv2 hn2
        go_wp2
        rw [← hW]
        clear hW c0 c1 c2 p0 LW
        go_region_held3 (fun w' => w'.cell? ⟨wr.heap.size, 0, none⟩ = some (.pointer (some ⟨w.heap.size, i, none⟩)) ∧ w'.cell? ⟨wr.heap.size, 1, none⟩ = some (.int .i64 (n : Nat)) ∧ w'.cell? ⟨w.heap.size, i, none⟩ = some (.int .i64 (v : Nat))) (go_keep) (first
          | (go_at_call 108; (with_reducible refine KU.out.mono ?_); rintro e' w5 ⟨rfl, hS, hT⟩; have k0 := hT.cell (p := ⟨wr.heap.size, 0, none⟩) q0 nr1 nr2; have k1 := hT.cell (p := ⟨wr.heap.size, 1, none⟩) q1 nr1 nr2; have k2 := hT.cell (p := ⟨w.heap.size, i, none⟩) qx np1 np2; have S5 := hid hS; have T5 := hid (TW.out.drew.trans hT); clear hS hT))
        rename_i hHeldZ
        clear hHeldZ k0 k1 k2 q0 q1 qx
        try simp only [Exit.then]
        go_wp2
        go_roundw
        case rel => exact ⟨i + 1, by omega, by go_num, hid (by rw [SX.out, SY.out]; exact S5.out), T5⟩
        case measure => simp [intOf] <;> omega
      · obtain rfl : i = 25 := by omega
        try rw [show ((25 : Nat) : Int) = 25 from rfl]
        have hs12 := HS2.out
        have hs1 := HW1.out
        have np1 : w.heap.size ≠ w1.heap.size := by omega
        have np2 : w.heap.size ≠ w2.heap.size + 1 := by omega
        have PE := hid (HT.out.blk P4.out np1 np2)
        have BE := hid (B4.out.trans (HT.out.below (B := w.heap.size) (by have := B4.out.size; exact this) (by omega) (by omega)))
        have KQ := hid (fun W (S : Pst w1.heap.size w2.heap.size (w2.heap.size + 1) (pkV ps 25) (pkA 25) W) => show Calls Tryz.prog 108 #[.int .i64 (pkQ ps : Nat), .int .i64 1, .pointer (some ⟨w2.heap.size, 0, none⟩), .pointer (some ⟨w2.heap.size + 1, 0, none⟩)] W (fun e w' => e = .returned (.tuple #[]) ∧ Pst w1.heap.size w2.heap.size (w2.heap.size + 1) (pkV ps 25 ||| pkQ ps <<< (112 - pkA 25 - 1)) (pkA 25 + 1) w' ∧ TwoP w1.heap.size (w2.heap.size + 1) W w') from put_any w1.heap.size w2.heap.size (w2.heap.size + 1) (pkV ps 25) (pkA 25) (pkQ ps) 1 W S (by omega) (Nat.mod_lt _ (by decide)) (by rw [pkA_end]; omega))
        rw [pkQ_eq] at KP
        have HWW := hid (show pkV ps 25 ||| pkQ ps <<< (112 - pkA 25 - 1) = pkW ps from by rw [pkA_end]; rfl)
        rw [HWW.out] at KQ
        clear HC P4 B4 T4
        generalize pkQ ps = qq at *
        go_wp2_with (first
          | (refine wpList_loadI rfl 38 (.tmp 1) rfl _ 38 ps 25 _ rfl PE.out Tryz.underlying38 rfl size25d HL.out ?_)
          | (go_at_call 66; (with_reducible refine (KP.out wr).mono ?_); rintro e w6 ⟨rfl, hB⟩; have S6 := hid (HS.out.below hB); have B6 := hid (BE.out.trans (hB.mono BE.out.size)); clear hB)
          | (go_at_call 108; (with_reducible refine (KQ.out w6 S6.out).mono ?_); rintro e' w7 ⟨rfl, hS, hT⟩; have S7 := hid hS; have B7 := hid (B6.out.trans (hT.below (B := w.heap.size) (by have := B6.out.size; exact this) (by omega) (by omega))); clear hS hT; have cB : w7.cell? ⟨w2.heap.size, 0, none⟩ = some (.slice (some ⟨w1.heap.size, 0, none⟩) 15 15) := Blk.cell S7.out.B 0))
        have KS := hid (packSum_any (some ⟨w1.heap.size, 0, none⟩) 15 14 (digL (pkW ps)) w7.drew (rb_head (Blk.drew S7.out.R)) (digL_len _) (by omega) (digL_byts _))
        have cE : w7.cell? ⟨w1.heap.size, 14, none⟩ = some (.int .u8 0) := by
          rw [Blk.cell S7.out.R 14]
          simp [bts, pkL, digL_len]
        have fE := Blk.frozen S7.out.R 14
        have FE := hid (fun (v : Int) => show Blk (w7.drew.setCell ⟨w1.heap.size, 14, none⟩ (.int .u8 v)) w1.heap.size 5 (bts (digL (pkW ps) ++ [v])).toArray from by
          have a := Blk.set_ (Blk.drew S7.out.R) 14 (.int .u8 v)
          have e : (bts (pkL (pkW ps))).toArray.setIfInBounds 14 (.int .u8 v) = (bts (digL (pkW ps) ++ [v])).toArray := by
            rw [List.setIfInBounds_toArray]
            unfold bts pkL
            rw [← List.map_set, List.set_append_right _ _ (by rw [digL_len]; omega), digL_len]
            rfl
          rw [e] at a
          exact a)
        have GE := hid (fun (v : Int) => Blk.cell (Blk.far (Blk.drew S7.out.B) (p := ⟨w1.heap.size, 14, none⟩) (show w2.heap.size ≠ w1.heap.size by omega) (.int .u8 v)) 0)
        have BF := hid (fun (v : Int) => (B7.out.drew).setCell (p := ⟨w1.heap.size, 14, none⟩) (show w.heap.size ≤ w1.heap.size by omega) (.int .u8 v))
        have LN := hid (show (pkBytes ps).length = 15 from by rw [HBY.out, List.length_append, digL_len]; rfl)
        obtain ⟨ck, hck⟩ : ∃ ck, ck = chk (digL (pkW ps)) := ⟨_, rfl⟩
        rw [← hck] at KS HBY
        clear hck
        have GE := GE.out ck
        have hne3 : ¬ w2.heap.size = w1.heap.size := by omega
        go_region_with ((go_at_call 62; (with_reducible refine KS.out.mono ?_); rintro e' w' ⟨rfl, rfl⟩))
        all_goals
          try simp only [Exit.then]
          go_wp2
          go_ret2
          exact ⟨_, 15, by rw [LN.out, HER.out]; rfl, by rw [HBY.out]; exact ownB_of_blkN (by rw [List.length_append, digL_len]; rfl) (FE.out ck) (by omega) (by omega), BF.out ck⟩
  · have hgf : pkTo ps 25 = false := by simpa using hg
    have HBY := hid (show pkBytes ps = [] from if_neg hg)
    have HER := hid (show pkErr ps = 2 from if_neg hg)
    rw [hgf] at KG
    clear hg hgf
    go_enter Tryz.func47, Tryz.ntmps47
    go_wp2_with (first
      | (rw [← HV.out]; clear HV)
      | (refine wpList_loadI rfl 38 (.tmp 1) rfl _ 38 ps 25 _ rfl P0.out Tryz.underlying38 rfl size25d HL.out ?_)
      | (go_at_call 65; (with_reducible refine KG.out.mono ?_); rintro e w1 ⟨rfl, hB⟩; have B1 := hid (B0.out.trans (hB.mono B0.out.size)); clear hB))
    go_ret2
    exact ⟨none, 0, by rw [HBY.out, HER.out]; rfl, by rw [HBY.out]; exact OwnB.nil, B1.out⟩
end Go.Proofs.YthoiikkjjaldnaaGreatDoor

/- The walk of the closure that gets bits out of bytes. -/
namespace Go.Proofs.YthoiikkjjaldnaaGreatDoor
set_option linter.unusedVariables false
set_option linter.unusedSimpArgs false
set_option maxRecDepth 100000
open Go.RowKit

theorem and1b {y : Nat} (hy : y < 256) : bits BinOp.and IntKind.u8 (y : Int) 1 = ((y % 2 : Nat) : Int) := by
  have h : (BitVec.ofInt 8 (y : Int) &&& BitVec.ofInt 8 1).toNat = y % 2 := by
    rw [BitVec.toNat_and, BitVec.toNat_ofInt, show (BitVec.ofInt 8 1).toNat = 2 ^ 1 - 1 from by decide, Nat.and_two_pow_sub_one_eq_mod]
    omega
  show IntKind.u8.wrap ((BitVec.ofInt 8 (y : Int) &&& BitVec.ofInt 8 1).toNat : Int) = _
  rw [h, IntKind.wrap_u8]
  omega
theorem or1 {x u : Nat} (hx : x < 1000000) (hu : u < 2) : bits BinOp.or IntKind.i64 ((x * 2 : Nat) : Int) (u : Int) = ((x * 2 + u : Nat) : Int) := by
  have e : x * 2 + u = x * 2 ||| u := by
    have h1 := Nat.shiftLeft_add_eq_or_of_lt (a := x) (b := u) (i := 1) (by omega)
    rw [Nat.shiftLeft_eq] at h1
    exact h1
  have h : (BitVec.ofInt 64 ((x * 2 : Nat) : Int) ||| BitVec.ofInt 64 (u : Int)).toNat = x * 2 + u := by
    rw [BitVec.toNat_or, BitVec.toNat_ofInt, BitVec.toNat_ofInt, e]
    congr 1 <;> omega
  show IntKind.i64.wrap ((BitVec.ofInt 64 ((x * 2 : Nat) : Int) ||| BitVec.ofInt 64 (u : Int)).toNat : Int) = _
  rw [h, IntKind.wrap_i64]
  omega
/-- What the unpacking keeps: the bytes, their variable, the place. -/
structure Ust (gB gA : Nat) (A : Option Addr) (c : Nat) (xs : List Int) (n : Nat) (W : World) : Prop where
  R : Rb W gB A xs
  B : Blk W gB 26 #[.slice A 15 c]
  A : Blk W gA 3 #[.int .i64 (n : Nat)]
  l1 : gB < gA
section
variable {gB gA c n : Nat} {A : Option Addr} {xs : List Int} {W W' : World}
theorem Ust.below (s : Ust gB gA A c xs n W) (hb : Below W.heap.size W W') : Ust gB gA A c xs n W' := ⟨s.R.below (hb.mono (Nat.le_of_lt (Blk.lt s.B))), Blk.below' s.B hb, Blk.below' s.A hb, s.l1⟩
theorem Ust.drewN (s : Ust gB gA A c xs n W) (k : Nat) : Ust gB gA A c xs n (W.drewN k) := ⟨s.R, s.B, s.A, s.l1⟩
theorem Ust.put (s : Ust gB gA A c xs n W) (m : Nat) : Ust gB gA A c xs m (W.setCell ⟨gA, 0, none⟩ (.int .i64 (m : Nat))) := by
  have h1 := s.l1
  refine ⟨s.R.below ((Below.refl _ _).setCell (p := ⟨gA, 0, none⟩) (by show gB ≤ gA; omega) _), Blk.far s.B (p := ⟨gA, 0, none⟩) (by show gB ≠ gA; omega) _, ?_, h1⟩
  exact Blk.set_ s.A 0 (.int .i64 (m : Nat))
/-- A block far from the place is written. -/
theorem Ust.far (s : Ust gB gA A c xs n W) {p : Addr} (h1 : gB < p.block) (h2 : gA ≠ p.block) (v : Value) : Ust gB gA A c xs n (W.setCell p v) :=
  ⟨s.R.below ((Below.refl _ _).setCell (by omega) _), Blk.far s.B (by omega) v, Blk.far s.A h2 v, s.l1⟩
end
theorem TwoP.drewN {g h : Nat} {w w1 : World} (a : TwoP g h w w1) (k : Nat) : TwoP g h w (w1.drewN k) := ⟨a.os, a.tape, a.output, a.size, a.keep⟩
set_option maxHeartbeats 4000000 in
theorem get_any (gB gA c a n : Nat) (A : Option Addr) (xs : List Int) (w : World) (S : Ust gB gA A c xs a w) (hx : Byts xs) (hl : xs.length = 15) (hc : 15 ≤ c) (hn : n ≤ 6) (ha : a + n ≤ 112) :
    Calls Tryz.prog 63 #[.int .i64 n, .pointer (some ⟨gB, 0, none⟩), .pointer (some ⟨gA, 0, none⟩)] w
      (fun e w' => e = .returned (.int .i64 (gt (unV xs) a n : Nat)) ∧ Ust gB gA A c xs (a + n) w' ∧ TwoP gA gA w w') := by
  have S0 := hid S
  have HX := hid hx
  have HL := hid hl
  clear S hx hl
  go_enter Tryz.func63, Tryz.ntmps63
  go_wp2
  go_loopw [5, 7] (fun vv iv wr => ∃ m : Nat, m ≤ n ∧ iv = .int .i64 m ∧ vv = .int .i64 (gt (unV xs) a m : Nat) ∧ Hid (Ust gB gA A c xs (a + m) wr) ∧ Hid (TwoP gA gA w wr)) (fun _ iv _ => n - (intOf iv).toNat)
  case atStart => exact ⟨0, by omega, rfl, by unfold gt; simp [Nat.mod_one], S0, hid (TwoP.refl _ _ _)⟩
  case round =>
    clear S0
    obtain ⟨m, hm, rfl, rfl, HS, HT⟩ := hrel
    by_cases hlt : m < n
    · obtain ⟨K, hA⟩ : ∃ K, K = a + m := ⟨_, rfl⟩
      rw [← hA] at HS
      obtain ⟨j, hj⟩ : ∃ j, j = K / 8 := ⟨_, rfl⟩
      obtain ⟨q, hq⟩ : ∃ q, q = 7 - K % 8 := ⟨_, rfl⟩
      obtain ⟨P, hP⟩ : ∃ P, P = 112 - a - (m + 1) := ⟨_, rfl⟩
      have hj14 : j < 14 := by omega
      have hq8 : q < 8 := by omega
      have hPe : 8 * (13 - j) + q = P := by omega
      obtain ⟨ad, rfl, had, c0⟩ := HS.out.R.at_ (k := j) (by rw [HL.out]; omega)
      have hd := nb_dig HX.out hj14
      have hxj := HX.out j
      have hbit := gt_bit (V := unV xs) (e := 8 * (13 - j)) hq8
      obtain ⟨e0, he0⟩ : ∃ e0, e0 = digE (unV xs) (8 * (13 - j)) := ⟨_, rfl⟩
      have he256 : e0 < 256 := by rw [he0]; exact digE_lt _ _
      have hxe : xs.getD j 0 = (e0 : Nat) := by
        have : e0 = (xs.getD j 0).toNat := by rw [he0]; exact hd
        omega
      rw [hxe] at c0
      rw [← he0, hPe] at hbit
      obtain ⟨y, hy⟩ : ∃ y, y = e0 / 2 ^ q := ⟨_, rfl⟩
      rw [← hy] at hbit
      have hy256 : y < 256 := by rw [hy]; exact Nat.lt_of_le_of_lt (Nat.div_le_self _ _) he256
      obtain ⟨u, hu⟩ : ∃ u, u = y % 2 := ⟨_, rfl⟩
      have hu2 : u < 2 := by omega
      have G1 := hid (show gt (unV xs) a (m + 1) = gt (unV xs) a m * 2 + u from by
        unfold gt
        rw [← hP, show 112 - a - m = P + 1 by omega, hu, hbit, Nat.shiftRight_succ]
        exact (gt_step _ _).symm)
      have hv64 : gt (unV xs) a m < 64 := Nat.lt_of_lt_of_le (gt_lt _ _ _) (show 2 ^ m ≤ 2 ^ 6 from Nat.pow_le_pow_right (by decide) (by omega))
      generalize gt (unV xs) a m = v at *
      have hyd : (e0 : Int) / 2 ^ q = (y : Nat) := by rw [hy]; simp
      have hand := and1b hy256
      rw [← hu] at hand
      have hor := or1 (x := v) (u := u) (by omega) hu2
      obtain ⟨v2, hv2⟩ : ∃ v2, v2 = v * 2 := ⟨_, rfl⟩
      obtain ⟨v3, hv3⟩ : ∃ v3, v3 = v * 2 + u := ⟨_, rfl⟩
      rw [← hv3] at hor G1
      rw [← hv2] at hor
      have hvd : (v : Int) * 2 = ((v2 : Nat) : Int) := by omega
      have hvw : IntKind.i64.wrap ((v2 : Nat) : Int) = ((v2 : Nat) : Int) := by rw [IntKind.wrap_i64]; omega
      clear hv2 hv3
      have hdj : (K : Int) / 8 = (j : Nat) := by omega
      have hdr : IntKind.i64.wrap (7 - (K : Int) % 8) = (q : Nat) := by rw [IntKind.wrap_i64]; omega
      have hqu : IntKind.u64.wrap ((q : Nat) : Int) = (q : Nat) := by rw [IntKind.wrap_u64]; omega
      have hui : IntKind.i64.wrap ((u : Nat) : Int) = (u : Nat) := by rw [IntKind.wrap_i64]; omega
      have q0 : (0 : Int) ≤ q := by omega
      have q64 : (q : Int) < 64 := by omega
      have j0 : (0 : Int) ≤ j := by omega
      have j15 : (j : Int) < 15 := by omega
      have cB : wr.cell? ⟨gB, 0, none⟩ = some (.slice (some ad) 15 c) := Blk.cell HS.out.B 0
      have cA : wr.cell? ⟨gA, 0, none⟩ = some (.int .i64 (K : Nat)) := Blk.cell HS.out.A 0
      have fA := Blk.frozen HS.out.A 0
      have hK1 : IntKind.i64.wrap ((K : Int) + 1) = (K : Int) + 1 := by rw [IntKind.wrap_i64]; omega
      have SN := hid ((HS.out.drewN 1).put (K + 1))
      have TN := hid ((HT.out.drewN 1).set1 0 (.int .i64 ((K + 1 : Nat) : Int)))
      have HA := hid hA
      clear hA hj hq hP hPe hd hxj hbit he0 hxe hy hu had
      go_wp2
      go_region
      go_wp2
      go_roundw
      case rel => exact ⟨m + 1, by omega, by go_num, by rw [G1.out], hid (by rw [show a + (m + 1) = K + 1 by have := HA.out; omega]; exact SN.out), TN⟩
      case measure => simp [intOf] <;> omega
    · obtain rfl : m = n := by omega
      go_wp2
      go_ret
      exact ⟨rfl, HS.out, HT.out⟩
end Go.Proofs.YthoiikkjjaldnaaGreatDoor

/- append of numbers as one step of a region that draws its order; three rows that a call fills. -/
namespace Go.Proofs.YthoiikkjjaldnaaGreatDoor
set_option linter.unusedVariables false
set_option linter.unusedSimpArgs false
set_option maxRecDepth 100000
open Go.RowKit

theorem step_cat0 {ops : Array Oper} {o : Oper} {a : Act} {w : World} {K : Act → World → Prop} {Q : Exit → Act → World → Prop} {E : Prop} (hgd : o.guard = none) (s x : Operand)
    (ho : o.op = .call { callee := .builtin .append, args := #[s, x], argTypes := #[27, 27] })
    (base : Nat) (A : Option Addr) (c : Nat) (xs : List Int) (hs : a.eval s = .slice A xs.length c) (hown : Own w base A c xs)
    (B : Nat) (A2 : Option Addr) (c2 : Nat) (ys : List Int) (hx : a.eval x = .slice A2 ys.length c2) (hr : Rs w B A2 ys) (hlen : xs.length + ys.length ≤ 17592186044416) (hbase : base ≤ w.heap.size)
    (h : ∀ A' c' w', Own w' base A' c' (xs ++ ys) → w.grownBy w' (A.map (·.block)) → (A' = A ∨ ∃ g, A' = some ⟨g, 0, none⟩ ∧ w.heap.size ≤ g) → K (a.put o.dst (.slice A' (xs.length + ys.length) c')) w') : if Region.wanted o (yielded ops a.tmps) = true then Oper.wp Tryz.prog o a w K Q else E := by
  have hw : Region.wanted o (yielded ops a.tmps) = true := by simp [Region.wanted, hgd]
  rw [if_pos hw]
  obtain ⟨i0, hi, hz0, hz1, hz2⟩ := info_parts infoI
  obtain ⟨v', w', hrun, h2, h3, h4⟩ := run_append_any (P := Tryz.prog) w base 27 o.type 3 i0 (.int .i64 0) 1 8 Tryz.underlying27 hi hz0 hz1 hz2 rfl (by omega) _ _ _ hown B A2 ys.length c2 (ints ys) hr (ints_one ys) (by unfold maxLen; omega) (by omega) hbase
  have hlt := fun a ha => Own.lt hown a ha
  obtain ⟨A', c', rfl, hO⟩ := own_form h2 (ints_append xs ys)
  have hl : (xs ++ ys).length = xs.length + ys.length := by simp
  unfold Oper.wp execOp
  simp only [ho, resolve, invoke, builtin, Sem.run_bind, Sem.run_pure, Result.andThen_ok, List.map_toArray, List.map_cons, List.map_nil, hs, hx, hrun]
  rw [hl]
  refine h A' c' w' hO (by cases A <;> exact h3) ?_
  have hn := hO.2
  rcases hn with ⟨hv, h0⟩ | ⟨g, cap, cur, hv, _⟩
  · injection hv with hA _ _
    subst hA
    left
    cases A with
    | none => rfl
    | some ad =>
      rcases h4 with h4 | h4
      · simp [Value.ownBlock] at h4
      · simp [Value.ownBlock] at h4
  · injection hv with hA _ _
    subst hA
    rcases h4 with h4 | h4
    · left
      cases A with
      | none => simp [Value.ownBlock] at h4
      | some ad =>
        simp [Value.ownBlock] at h4
        rcases hown.2 with ⟨hv2, _⟩ | ⟨g2, cap2, cur2, hv2, _⟩
        · cases hv2
        · injection hv2 with hA2 _ _
          injection hA2 with hA2
          subst hA2
          simp at h4
          subst h4
          rfl
    · right
      simp [Value.ownBlock] at h4
      exact ⟨g, rfl, by omega⟩

theorem step_cat {ops : Array Oper} {o : Oper} {a : Act} {w : World} {K : Act → World → Prop} {Q : Exit → Act → World → Prop} {E : Prop} (hgd : o.guard = none) (s x : Operand)
    (ho : o.op = .call { callee := .builtin .append, args := #[s, x], argTypes := #[27, 27] })
    (base : Nat) (A : Option Addr) (c n : Nat) (xs : List Int) (hs : a.eval s = .slice A n c) (hn : xs.length = n) (hown : Own w base A c xs)
    (B : Nat) (A2 : Option Addr) (c2 m q : Nat) (ys : List Int) (hx : a.eval x = .slice A2 m c2) (hm : ys.length = m) (hq : n + m = q) (hr : Rs w B A2 ys) (hlen : q ≤ 17592186044416) (hbase : base ≤ w.heap.size)
    (h : ∀ A' c' w', Own w' base A' c' (xs ++ ys) → w.grownBy w' (A.map (·.block)) → (A' = A ∨ ∃ g, A' = some ⟨g, 0, none⟩ ∧ w.heap.size ≤ g) → K (a.put o.dst (.slice A' q c')) w') : if Region.wanted o (yielded ops a.tmps) = true then Oper.wp Tryz.prog o a w K Q else E := by
  subst hn
  subst hm
  subst hq
  exact step_cat0 hgd s x ho base A c xs hs hown B A2 c2 ys hx hr hlen hbase h

theorem cell_alloc {w : World} {p : Addr} {v : Value} (o : Obj) (h : w.cell? p = some v) : (w.alloc o).cell? p = some v := by
  have hlt : p.block < w.heap.size := by
    rcases Nat.lt_or_ge p.block w.heap.size with h1 | h1
    · exact h1
    · unfold World.cell? at h
      rw [Array.getElem?_eq_none h1] at h
      simp at h
  exact (((Below.refl w.heap.size w).alloc (Nat.le_refl _) o).cell hlt).trans h
/-- Cells of elder worlds that are not the row's stay. -/
def Lits (n0 : Nat) (w w' : World) : Prop := ∀ (p : Addr) v, n0 ≤ p.block → w.cell? p = some v → w'.cell? p = some v
theorem lits_grown {w w' : World} {n0 : Nat} {A : Option Addr} (hG : w.grownBy w' (A.map (·.block))) (hA : ∀ a, A = some a → a.block < n0) : Lits n0 w w' := fun p v hp h => by
  have hlt : p.block < w.heap.size := by
    rcases Nat.lt_or_ge p.block w.heap.size with h1 | h1
    · exact h1
    · unfold World.cell? at h
      rw [Array.getElem?_eq_none h1] at h
      simp at h
  have hb := hG.block p.block hlt (by
    cases A with
    | none => simp
    | some a =>
      have := hA a rfl
      simp
      omega)
  unfold World.cell? at *
  rw [hb]
  exact h
theorem Lits.refl (n0 : Nat) (w : World) : Lits n0 w w := fun _ _ _ h => h
theorem Lits.trans {n0 : Nat} {a b c : World} (h : Lits n0 a b) (k : Lits n0 b c) : Lits n0 a c := fun p v hp hc => k p v hp (h p v hp hc)
theorem Lits.alloc {n0 : Nat} {a b : World} (h : Lits n0 a b) (o : Obj) : Lits n0 a (b.alloc o) := fun p v hp hc => cell_alloc o (h p v hp hc)
theorem Lits.drew {n0 : Nat} {a b : World} (h : Lits n0 a b) : Lits n0 a b.drew := h
theorem Lits.cell {n0 : Nat} {w w' : World} {p : Addr} {v : Value} (h : Lits n0 w w') (hp : n0 ≤ p.block) (hc : w.cell? p = some v) : w'.cell? p = some v := h p v hp hc
theorem cell_lt {w : World} {p : Addr} {v : Value} (h : w.cell? p = some v) : p.block < w.heap.size := by
  rcases Nat.lt_or_ge p.block w.heap.size with h1 | h1
  · exact h1
  · unfold World.cell? at h
    rw [Array.getElem?_eq_none h1] at h
    simp at h
theorem cell_newE {w : World} {g : Nat} {v : Value} {t : TypeId} (h : g = w.heap.size) : (w.alloc (.cells #[v] t)).cell? ⟨g, 0, none⟩ = some v := by rw [h]; exact cell_new w v t
theorem cell_newAt {w : World} {g i : Nat} {v : Value} {cs : Array Value} {t : TypeId} (h : g = w.heap.size) (hv : cs[i]? = some v) : (w.alloc (.cells cs t)).cell? ⟨g, i, none⟩ = some v := by rw [h]; exact (Blk.cell (Blk.new w t cs) i).trans hv
theorem cell_drew {w : World} {p : Addr} {v : Value} (h : w.cell? p = some v) : w.drew.cell? p = some v := h
/-- Slices of some cells. -/
theorem rs_at2 {w : World} {B g : Nat} {a b : Int} (h0 : w.cell? ⟨g, 0, none⟩ = some (.int .i64 a)) (h1 : w.cell? ⟨g, 1, none⟩ = some (.int .i64 b)) (hg : g < B) : Rs w B (some ⟨g, 0, none⟩) [a, b] :=
  ⟨by simp [ints], fun _ => ⟨_, rfl, hg, fun j u hj => by
    match j, hj with
    | 0, hj => simp [ints] at hj; subst hj; rw [add_zero']; exact h0
    | 1, hj => simp [ints] at hj; subst hj; rw [add_zero']; exact h1⟩⟩
theorem add_two (g i : Nat) : (⟨g, 2, none⟩ : Addr).add i = ⟨g, 2 + i, none⟩ := by unfold Addr.add; split <;> simp_all
theorem rs_at4 {w : World} {B g : Nat} {a b c d : Int} (h0 : w.cell? ⟨g, 2, none⟩ = some (.int .i64 a)) (h1 : w.cell? ⟨g, 3, none⟩ = some (.int .i64 b)) (h2 : w.cell? ⟨g, 4, none⟩ = some (.int .i64 c)) (h3 : w.cell? ⟨g, 5, none⟩ = some (.int .i64 d)) (hg : g < B) : Rs w B (some ⟨g, 2, none⟩) [a, b, c, d] :=
  ⟨by simp [ints], fun _ => ⟨_, rfl, hg, fun j u hj => by
    match j, hj with
    | 0, hj => simp [ints] at hj; subst hj; rw [add_two]; exact h0
    | 1, hj => simp [ints] at hj; subst hj; rw [add_two]; exact h1
    | 2, hj => simp [ints] at hj; subst hj; rw [add_two]; exact h2
    | 3, hj => simp [ints] at hj; subst hj; rw [add_two]; exact h3⟩⟩
/-- What an append leaves: every cell but the row's. -/
def Hop (w : World) (A : Option Addr) (w' : World) : Prop := ∀ (p : Addr) v, (∀ a, A = some a → a.block ≠ p.block) → w.cell? p = some v → w'.cell? p = some v
theorem hop_of {w w' : World} {A : Option Addr} (hG : w.grownBy w' (A.map (·.block))) : Hop w A w' := fun p v hp h => by
  have hb := hG.block p.block (cell_lt h) (by
    cases A with
    | none => simp
    | some a =>
      have := hp a rfl
      simp
      omega)
  unfold World.cell? at *
  rw [hb]
  exact h
theorem Hop.cell {w w' : World} {A : Option Addr} {p : Addr} {v : Value} (h : Hop w A w') (hp : ∀ a, A = some a → a.block ≠ p.block) (hc : w.cell? p = some v) : w'.cell? p = some v := h p v hp hc
/-- Eight cells of a block. -/
abbrev Box8 (g : Nat) (W : World) (a b c d e f x y : Int) : Prop := W.cell? ⟨g, 0, none⟩ = some (.int .i64 a) ∧ W.cell? ⟨g, 1, none⟩ = some (.int .i64 b) ∧ W.cell? ⟨g, 2, none⟩ = some (.int .i64 c) ∧ W.cell? ⟨g, 3, none⟩ = some (.int .i64 d) ∧ W.cell? ⟨g, 4, none⟩ = some (.int .i64 e) ∧ W.cell? ⟨g, 5, none⟩ = some (.int .i64 f) ∧ W.cell? ⟨g, 6, none⟩ = some (.int .i64 x) ∧ W.cell? ⟨g, 7, none⟩ = some (.int .i64 y)
theorem Box8.alloc {g : Nat} {W : World} {a b c d e f x y : Int} (h : Box8 g W a b c d e f x y) (o : Obj) : Box8 g (W.alloc o) a b c d e f x y :=
  ⟨cell_alloc o h.1, cell_alloc o h.2.1, cell_alloc o h.2.2.1, cell_alloc o h.2.2.2.1, cell_alloc o h.2.2.2.2.1, cell_alloc o h.2.2.2.2.2.1, cell_alloc o h.2.2.2.2.2.2.1, cell_alloc o h.2.2.2.2.2.2.2⟩
theorem Box8.drew {g : Nat} {W : World} {a b c d e f x y : Int} (h : Box8 g W a b c d e f x y) : Box8 g W.drew a b c d e f x y := h
theorem Box8.hop {g : Nat} {W W' : World} {A : Option Addr} {a b c d e f x y : Int} (h : Box8 g W a b c d e f x y) (k : Hop W A W') (hne : ∀ ad, A = some ad → ad.block ≠ g) : Box8 g W' a b c d e f x y :=
  ⟨k _ _ hne h.1, k _ _ hne h.2.1, k _ _ hne h.2.2.1, k _ _ hne h.2.2.2.1, k _ _ hne h.2.2.2.2.1, k _ _ hne h.2.2.2.2.2.1, k _ _ hne h.2.2.2.2.2.2.1, k _ _ hne h.2.2.2.2.2.2.2⟩
theorem Box8.new (w : World) (t : TypeId) (a b c d e f x y : Int) : Box8 w.heap.size (w.alloc (.cells #[.int .i64 a, .int .i64 b, .int .i64 c, .int .i64 d, .int .i64 e, .int .i64 f, .int .i64 x, .int .i64 y] t)) a b c d e f x y :=
  ⟨cell_newAt rfl rfl, cell_newAt rfl rfl, cell_newAt rfl rfl, cell_newAt rfl rfl, cell_newAt rfl rfl, cell_newAt rfl rfl, cell_newAt rfl rfl, cell_newAt rfl rfl⟩
theorem Box8.lt {g : Nat} {W : World} {a b c d e f x y : Int} (h : Box8 g W a b c d e f x y) : g < W.heap.size := cell_lt (p := ⟨g, 0, none⟩) h.1
theorem Box8.rs {g B : Nat} {W : World} {a b c d e f x y : Int} (h : Box8 g W a b c d e f x y) (hg : g < B) : Rs W B (some ⟨g, 2, none⟩) [c, d, e, f] := rs_at4 h.2.2.1 h.2.2.2.1 h.2.2.2.2.1 h.2.2.2.2.2.1 hg
/-- A slice of one cell. -/
theorem rs_one {w : World} {B g : Nat} {y : Int} (h : w.cell? ⟨g, 0, none⟩ = some (.int .i64 y)) (hg : g < B) : Rs w B (some ⟨g, 0, none⟩) [y] :=
  ⟨by simp [ints], fun _ => ⟨_, rfl, hg, fun j u hj => by
    match j, hj with
    | 0, hj => simp [ints] at hj; subst hj; rw [add_zero']; exact h⟩⟩

/-- A packet's box and three rows that the call fills. -/
structure N3 (w wr : World) (ps : List Int) (A1 : Option Addr) (c1 : Nat) (v : List Int) (A2 : Option Addr) (c2 : Nat) (u : List Int) (A3 : Option Addr) (c3 : Nat) (m : List Int) : Prop where
  P : IB wr w.heap.size 38 ps
  O1 : Own wr (w.heap.size + 1) A1 c1 v
  O2 : Own wr (w.heap.size + 1) A2 c2 u
  O3 : Own wr (w.heap.size + 1) A3 c3 m
  d12 : ∀ a b, A1 = some a → A2 = some b → a.block ≠ b.block
  d13 : ∀ a b, A1 = some a → A3 = some b → a.block ≠ b.block
  d23 : ∀ a b, A2 = some a → A3 = some b → a.block ≠ b.block
  B : Below w.heap.size w wr
theorem own_map {w : World} {base c : Nat} {A : Option Addr} {xs : List Int} (h : Own w base A c xs) : ∀ k, A.map (·.block) = some k → base ≤ k := fun k hk => by
  cases A with
  | none => cases hk
  | some a =>
    injection hk with hk
    rw [← hk]
    exact (h.lt a rfl).1
theorem map_ne {A D : Option Addr} (h : ∀ a b, A = some a → D = some b → a.block ≠ b.block) : ∀ a, D = some a → some a.block ≠ A.map (·.block) := fun b hb e => by
  cases A with
  | none => cases e
  | some a =>
    injection e with e
    exact h a b rfl hb e.symm
/-- Where a row has moved to, it is no other row. -/
theorem moved_row {w : World} {base c : Nat} {A A' D : Option Addr} {xs : List Int} (hD : Own w base D c xs) (hA : A' = A ∨ ∃ g, A' = some ⟨g, 0, none⟩ ∧ w.heap.size ≤ g) (h : ∀ a b, A = some a → D = some b → a.block ≠ b.block) : ∀ a b, A' = some a → D = some b → a.block ≠ b.block := fun a b ha hb => by
  rcases hA with rfl | ⟨g, rfl, hg⟩
  · exact h a b ha hb
  · injection ha with ha
    subst ha
    have := (hD.lt b hb).2
    show g ≠ b.block
    omega
section
variable {w wr w' : World} {ps v u m x : List Int} {A1 A2 A3 A' : Option Addr} {c1 c2 c3 c' : Nat}
theorem N3.size (s : N3 w wr ps A1 c1 v A2 c2 u A3 c3 m) : w.heap.size + 1 ≤ wr.heap.size := Blk.lt s.P
theorem N3.alloc (s : N3 w wr ps A1 c1 v A2 c2 u A3 c3 m) (o : Obj) : N3 w (wr.alloc o) ps A1 c1 v A2 c2 u A3 c3 m := ⟨Blk.alloc s.P o, s.O1.alloc o, s.O2.alloc o, s.O3.alloc o, s.d12, s.d13, s.d23, s.B.alloc s.B.size o⟩
theorem N3.drew (s : N3 w wr ps A1 c1 v A2 c2 u A3 c3 m) : N3 w wr.drew ps A1 c1 v A2 c2 u A3 c3 m := ⟨Blk.drew s.P, s.O1.drew, s.O2.drew, s.O3.drew, s.d12, s.d13, s.d23, s.B.drew⟩
theorem N3.app1 (s : N3 w wr ps A1 c1 v A2 c2 u A3 c3 m) (hO : Own w' (w.heap.size + 1) A' c' x) (hG : wr.grownBy w' (A1.map (·.block))) (hA : A' = A1 ∨ ∃ g, A' = some ⟨g, 0, none⟩ ∧ wr.heap.size ≤ g) : N3 w w' ps A' c' x A2 c2 u A3 c3 m :=
  ⟨Blk.grown s.P hG (fun e => by have := own_map s.O1 _ e.symm; omega), hO, s.O2.kept hG (map_ne s.d12), s.O3.kept hG (map_ne s.d13), moved_row s.O2 hA s.d12, moved_row s.O3 hA s.d13, s.d23, s.B.grown hG s.B.size (fun k hk => by have := own_map s.O1 k hk; omega)⟩
theorem N3.app2 (s : N3 w wr ps A1 c1 v A2 c2 u A3 c3 m) (hO : Own w' (w.heap.size + 1) A' c' x) (hG : wr.grownBy w' (A2.map (·.block))) (hA : A' = A2 ∨ ∃ g, A' = some ⟨g, 0, none⟩ ∧ wr.heap.size ≤ g) : N3 w w' ps A1 c1 v A' c' x A3 c3 m :=
  ⟨Blk.grown s.P hG (fun e => by have := own_map s.O2 _ e.symm; omega), s.O1.kept hG (map_ne fun a b ha hb => (s.d12 b a hb ha).symm), hO, s.O3.kept hG (map_ne s.d23), fun a b ha hb => (moved_row s.O1 hA (fun a b ha hb => (s.d12 b a hb ha).symm) b a hb ha).symm, s.d13, moved_row s.O3 hA s.d23, s.B.grown hG s.B.size (fun k hk => by have := own_map s.O2 k hk; omega)⟩
theorem N3.app3 (s : N3 w wr ps A1 c1 v A2 c2 u A3 c3 m) (hO : Own w' (w.heap.size + 1) A' c' x) (hG : wr.grownBy w' (A3.map (·.block))) (hA : A' = A3 ∨ ∃ g, A' = some ⟨g, 0, none⟩ ∧ wr.heap.size ≤ g) : N3 w w' ps A1 c1 v A2 c2 u A' c' x :=
  ⟨Blk.grown s.P hG (fun e => by have := own_map s.O3 _ e.symm; omega), s.O1.kept hG (map_ne fun a b ha hb => (s.d13 b a hb ha).symm), s.O2.kept hG (map_ne fun a b ha hb => (s.d23 b a hb ha).symm), hO, s.d12, fun a b ha hb => (moved_row s.O1 hA (fun a b ha hb => (s.d13 b a hb ha).symm) b a hb ha).symm, fun a b ha hb => (moved_row s.O2 hA (fun a b ha hb => (s.d23 b a hb ha).symm) b a hb ha).symm, s.B.grown hG s.B.size (fun k hk => by have := own_map s.O3 k hk; omega)⟩
/-- A cell of the elder world. -/
theorem N3.old (s : N3 w wr ps A1 c1 v A2 c2 u A3 c3 m) {p : Addr} {y : Value} (h : w.cell? p = some y) (hp : p.block < w.heap.size) : wr.cell? p = some y := (s.B.cell hp).trans h
end
end Go.Proofs.YthoiikkjjaldnaaGreatDoor
