/- The walk of the reference's Correlate. -/
import Derived.Test.YtnbenmpjpogldaaCorC
import Derived.Test.YtnbenmpjpogldaaSliceW
namespace Go.Proofs.Ytnbenmpjpogldaa
set_option linter.unusedVariables false
set_option linter.unusedSimpArgs false
set_option maxRecDepth 100000
open Go.RowKit

theorem cell_far (w : World) (v : Value) {p q : Addr} (h : q.block ≠ p.block) : (w.setCell p v).cell? q = w.cell? q := by
  unfold World.cell?
  rw [Below.heap_setCell w p v q.block h]
/-- The answer's numbers, the first k of them made. -/
def corE (l : List Int) (k : Nat) : List Int := (List.range 9).map (fun j => if j < k then corQ (corG l (corX l j)) j else 0)
theorem corE_len (l : List Int) (k : Nat) : (corE l k).length = 9 := by simp [corE]
theorem corE_zero (l : List Int) : corE l 0 = Z9 := by
  refine list_ext (by rw [corE_len]; rfl) fun j hj => ?_
  rw [corE_len] at hj
  unfold corE Z9
  rw [range_get _ hj, if_neg (by omega), List.getD_eq_getElem?_getD, List.getElem?_replicate, if_pos hj]
  rfl
theorem corE_set (l : List Int) {k : Nat} (hk : k < 9) : (corE l k).set k (corQ (corG l (corX l k)) k) = corE l (k + 1) := by
  refine list_ext (by rw [List.length_set, corE_len, corE_len]) fun j hj => ?_
  rw [List.length_set, corE_len] at hj
  by_cases e : k = j
  · subst e
    rw [get_set_same _ _ _ (by rw [corE_len]; exact hk)]
    unfold corE
    rw [range_get _ hj, if_pos (by omega)]
  · rw [get_set_other _ _ e]
    unfold corE
    rw [range_get _ hj, range_get _ hj]
    by_cases h2 : j < k
    · rw [if_pos h2, if_pos (by omega)]
    · rw [if_neg h2, if_neg (by omega)]
theorem corE_end (l : List Int) : corE l 9 = corF l (corG l) 9 := by
  refine list_ext (by rw [corE_len, corF_len]) fun j hj => ?_
  rw [corE_len] at hj
  unfold corE corF
  rw [range_get _ hj, range_get _ hj, if_pos hj, if_pos hj]
/-- The whole numbers, the first k of them moved. -/
def corY (l : List Int) (k j : Nat) : Int := if j < k then corG l (corX l j) else corX l j
def corV (l : List Int) (j : Nat) : Int := corS l j (120 - j)
theorem upX_same (X : Nat → Int) (k : Nat) (z : Int) : upX X k z k = z := if_pos rfl
theorem upX_twice (X : Nat → Int) (k : Nat) (y z : Int) (j : Nat) : upX (upX X k y) k z j = upX X k z j := by
  unfold upX
  split <;> rfl
theorem corY_next (l : List Int) (k j : Nat) : upX (corY l k) k (corG l (corX l k)) j = corY l (k + 1) j := by
  unfold upX corY
  by_cases e : j = k
  · subst e
    rw [if_pos rfl, if_pos (by omega)]
  · rw [if_neg e]
    by_cases h : j < k
    · rw [if_pos h, if_pos (by omega)]
    · rw [if_neg h, if_neg (by omega)]
theorem corV_next (l : List Int) (k j : Nat) : upX (corV l) k (corS l k (120 - k)) j = corV l j := by
  unfold upX corV
  split
  · rename_i e; rw [e]
  · rfl
theorem corV_last (l : List Int) (j : Nat) : upX (corV l) 0 (corS l 0 120 + 1) j = corY l 0 j := by
  unfold upX corV corY corX corZ
  rw [if_neg (show ¬ j < 0 by omega)]

set_option maxHeartbeats 8000000 in
theorem refCorrelate_good (A : Option Addr) (c : Nat) (l : List Int) (w : World) (hr : Rs w w.heap.size A l) (hn : l.length = 120) (g : all16 l = true) :
    Calls Try.prog 6 #[.slice A 120 c] w (CorFin l w) := by
  have hR := results_row3 (fn := Try.f6) (p := 2) (q := 3) (r := 4) (ty := 23) rfl
  have KR := hid (fun (W : World) (h : Rs W W.heap.size A l) => Right_any A c 120 W.heap.size l W h hn (by omega))
  rw [g] at KR
  have G := hid (show In16 l from all16_at g)
  have HR := hid hr
  have HN := hid hn
  have B0 := (((Below.refl w.heap.size w).alloc (Nat.le_refl _) (.cells (agi Z9) 23)).alloc (by simp) (.cells (agi Z9) 23))
  have I0 := Blk.alloc (IB.new w 23 Z9) (.cells (agi Z9) 23)
  have R0 := IB.new (w.alloc (.cells (agi Z9) 23)) 23 Z9
  simp only [World.size_alloc] at R0
  clear hr hn g
  go_enter Try.func6, Try.ntmps6
  go_wp2_with fail
  refine (KR.out _ ((HR.out.below B0).more B0.size)).mono ?_
  rintro e w1 ⟨rfl, rfl⟩
  have BH := hid B0
  have I1 := hid (show IB ((w.alloc (.cells (agi Z9) 23)).alloc (.cells (agi Z9) 23)) w.heap.size 23 Z9 from I0)
  have R1 := hid (show IB ((w.alloc (.cells (agi Z9) 23)).alloc (.cells (agi Z9) 23)) (w.heap.size + 1) 23 Z9 from R0)
  clear B0 I0 R0
  obtain ⟨V, hV⟩ : ∃ V, V = ((w.alloc (.cells (agi Z9) 23)).alloc (.cells (agi Z9) 23)) := ⟨_, rfl⟩
  have SV := hid (show V.heap.size = w.heap.size + 2 by rw [hV]; simp)
  rw [← hV] at I1 R1 BH ⊢
  clear hV
  go_wp2_with (at_make; refine wpList_makeI rfl _ _ rfl .i64 .i64 120 rfl rfl (w.heap.size + 2) (by omega) (by have := SV.out; omega) ?_; intro w1 hO hG; have O1 := hid hO; have G1 := hid hG; clear hO hG)
  obtain ⟨gw, hgw⟩ : ∃ gw, gw = V.heap.size := ⟨_, rfl⟩
  have W1 := hid (show Own w1 (w.heap.size + 2) (some ⟨gw, 0, none⟩) 120 (corN l 0) from by rw [corN_zero, hgw]; exact O1.out)
  have GW := hid (show gw = w.heap.size + 2 by rw [hgw]; exact SV.out)
  rw [← hgw]
  have I2 := hid (Blk.grown I1.out G1.out (by simp))
  have R2 := hid (Blk.grown R1.out G1.out (by simp))
  have B2 := hid (BH.out.grown G1.out BH.out.size (by simp))
  clear hgw SV I1 R1 BH O1 G1
  go_loopw [25] (fun iv wr => ∃ i : Nat, i ≤ 120 ∧ iv = .int .i64 i ∧ Hid (IB wr w.heap.size 23 Z9) ∧ Hid (IB wr (w.heap.size + 1) 23 Z9) ∧ Hid (Own wr (w.heap.size + 2) (some ⟨gw, 0, none⟩) 120 (corN l i)) ∧ Hid (Below w.heap.size w wr)) (fun iv _ => 120 - (intOf iv).toNat)
  case atStart => exact ⟨0, by omega, rfl, I2, R2, W1, B2⟩
  case round =>
    clear I2 R2 W1 B2
    obtain ⟨i, hi, rfl, HI, HQ, HW, HB⟩ := hrel
    by_cases hlt : i < 120
    · obtain ⟨ad, rfl, hadb, c0⟩ := (HR.out.below HB.out).at_ (k := i) (by rw [HN.out]; exact hlt)
      have x16 := G.out i
      have yr := wgt_range (i : Nat)
      have HSet := hid (corN_set l hlt)
      have HC := hid (show corW l i = (l.getD i 0 * wgt (i : Nat) + 16384) / 32768 from rfl)
      have KW := hid (fun W => refWeight_any (i : Nat) W)
      generalize l.getD i 0 = x at *
      generalize wgt (i : Nat) = y at *
      have pr := mul_bound (x := x) (X := 32768) (y := y) (Y := 32767) (by omega) (by omega) ⟨by omega, by omega⟩ ⟨by omega, by omega⟩
      have p1 : -1073709056 ≤ x * y := by omega
      have p2 : x * y ≤ 1073709056 := by omega
      have in0 : (0 : Int) ≤ i := by omega
      have in1 : (i : Int) < 120 := by omega
      have hw1 : IntKind.i64.wrap (x * y) = x * y := by rw [IntKind.wrap_i64]; omega
      have hw2 : IntKind.i64.wrap (x * y + 16384) = x * y + 16384 := by rw [IntKind.wrap_i64]; omega
      have KD := hid (fun W => down15 (x * y + 16384) W (by omega) (by omega))
      have hne : ad.block ≠ gw := by have := GW.out; omega
      have hne2 : gw ≠ ad.block := by omega
      have hsz := HB.out.size
      clear pr x16 yr
      go_wp2
      go_region_held3 (fun w' => w'.cell? (ad.add i) = some (.int .i64 x)) (first | go_keep | (refine (cell_far _ _ (by rw [block_of_add]; exact hne)).trans ?_; assumption)) (first
        | (go_at_call 11; (with_reducible refine (KW.out _).mono ?_); rintro e' w' ⟨rfl, rfl⟩)
        | (go_at_call 10; (with_reducible refine (KD.out wr.drew).mono ?_); rintro e' wD ⟨rfl, hD⟩; have LD := hid (((Below.refl wr.heap.size wr).drew).trans hD); have cD : World.cell? wD (ad.add i) = some (.int .i64 x) := (LD.out.cell (by rw [block_of_add]; omega)).trans c0; have WD := hid (HW.out.below LD.out); have cwD := WD.out.cell i (by rw [corN_len]; exact hlt); have fwD := WD.out.frozen i; clear hD))
      all_goals
        rename_i hHeldZ
        clear hHeldZ cD cwD fwD c0 hw1 hw2
        try simp only [Exit.then]
        have NI := hid (Blk.far (Blk.below' HI.out LD.out) (p := ⟨gw, i, none⟩) (by show w.heap.size ≠ gw; have := GW.out; omega) (.int .i64 ((x * y + 16384) / 32768)))
        have NQ := hid (Blk.far (Blk.below' HQ.out LD.out) (p := ⟨gw, i, none⟩) (by show w.heap.size + 1 ≠ gw; have := GW.out; omega) (.int .i64 ((x * y + 16384) / 32768)))
        have NW := hid (show Own (wD.setCell ⟨gw, i, none⟩ (.int .i64 ((x * y + 16384) / 32768))) (w.heap.size + 2) (some ⟨gw, 0, none⟩) 120 (corN l (i + 1)) from by rw [← HSet.out, HC.out]; exact WD.out.set_ i (by rw [corN_len]; exact hlt) _)
        have NB := hid ((HB.out.trans (LD.out.mono HB.out.size)).setCell (p := ⟨gw, i, none⟩) (by show w.heap.size ≤ gw; have := GW.out; omega) (.int .i64 ((x * y + 16384) / 32768)))
        go_wp2
        go_roundw
        case rel => exact ⟨i + 1, by omega, by go_num, NI, NQ, NW, NB⟩
        case measure => simp [intOf] <;> omega
    · obtain rfl : i = 120 := by omega
      have hgwlt : gw < wr.heap.size := (HW.out.lt _ rfl).2
      have SC := hid (show Cs w (wr.alloc (.cells #[.pointer none, .pointer none, .pointer none, .pointer none, .pointer none, .pointer none, .pointer none, .pointer none, .pointer none] 34)) Z9 (corN l 120) gw wr.heap.size 0 (fun _ => 0) (corV l) from
        ⟨Blk.alloc HI.out _, Blk.alloc HQ.out _, HW.out.alloc _, by rw [ptr9_zero]; exact Blk.new wr _ _, fun j hj => by omega, fun j hj => by omega, fun i j hij hj => by omega, by have := GW.out; omega, hgwlt, HB.out.alloc HB.out.size _⟩)
      go_wp2
      obtain ⟨gs, hgs⟩ : ∃ gs, gs = wr.heap.size := ⟨_, rfl⟩
      obtain ⟨V2, hV2⟩ : ∃ V2, V2 = wr.alloc (.cells #[.pointer none, .pointer none, .pointer none, .pointer none, .pointer none, .pointer none, .pointer none, .pointer none, .pointer none] 34) := ⟨_, rfl⟩
      rw [← hV2, ← hgs] at SC ⊢
      try rw [show ((120 : Nat) : Int) = 120 from rfl]
      clear hV2 hgs hgwlt HI HQ HW HB
      go_loopw [41] (fun kv wr => ∃ (k : Nat) (P : Nat → Nat), k ≤ 9 ∧ kv = .int .i64 k ∧ Hid (Cs w wr Z9 (corN l 120) gw gs k P (corV l))) (fun kv _ => 9 - (intOf kv).toNat)
      case atStart => exact ⟨0, _, by omega, rfl, SC⟩
      case round =>
        clear SC
        obtain ⟨k, P, hk, rfl, HS⟩ := hrel
        by_cases hlk : k < 9
        · have hdec : decide ((k : Int) < 9) = true := by simp; omega
          have k0 : (0 : Int) ≤ k := by omega
          have k9 : (k : Int) < 9 := by omega
          have cg : (wr.alloc (.cells #[.bool false, .slice none 0 0] 37)).cell? ⟨gs, k, none⟩ = some (.pointer none) := by
            rw [Blk.cell (Blk.alloc HS.out.S _) k, ptr9_get P k hlk]
            unfold ptrC
            rw [if_neg (by omega)]
          have fg : (wr.alloc (.cells #[.bool false, .slice none 0 0] 37)).frozen? ⟨gs, k, none⟩ = false := Blk.frozen (Blk.alloc HS.out.S _) k
          have HP := hid (HS.out.push hlk)
          go_wp2
          obtain ⟨wo, hwo⟩ : ∃ wo, wo = (wr.alloc (.cells #[.bool false, .slice none 0 0] 37)).setCell ⟨gs, k, none⟩ (.pointer (some ⟨wr.heap.size, 0, none⟩)) := ⟨_, rfl⟩
          rw [← hwo] at HP ⊢
          obtain ⟨P2, hP2⟩ : ∃ P2, P2 = upN P k wr.heap.size := ⟨_, rfl⟩
          rw [← hP2] at HP
          clear hwo hP2 cg fg HS
          go_loopw [10] (fun iv wr => ∃ i : Nat, i + k ≤ 120 ∧ iv = .int .i64 i ∧ Hid (Cs w wr Z9 (corN l 120) gw gs (k + 1) P2 (upX (corV l) k (corS l k i)))) (fun iv _ => 120 - (intOf iv).toNat)
          case atStart => exact ⟨0, by omega, rfl, HP⟩
          case round =>
            clear HP
            obtain ⟨i, hi, rfl, HS⟩ := hrel
            by_cases hlt : i + k < 120
            · obtain ⟨m, hm⟩ : ∃ m, m = i + k := ⟨_, rfl⟩
              have cp := HS.out.ptr (j := k) (by omega) hlk
              have ci := HS.out.at_ (j := i) (by rw [corN_len]; omega)
              have cm := HS.out.at_ (j := m) (by rw [corN_len]; omega)
              have CI := hid (corN_at l (j := i) (by omega))
              have CM := hid (corN_at l (j := m) (by omega))
              have ST := hid (show corS l k (i + 1) = corS l k i + corW l i * corW l m by
                unfold corS
                simp only [sumN]
                unfold corT
                rw [hm])
              have sr := corS_range G.out k i (by omega)
              have r1 := corW_range G.out i
              have r2 := corW_range G.out m
              rw [CI.out] at ci
              rw [CM.out] at cm
              generalize corW l i = x at *
              generalize corW l m = y at *
              obtain ⟨s, hs⟩ : ∃ s, s = corS l k i := ⟨_, rfl⟩
              rw [← hs] at sr ST HS
              have pr := mul_bound (x := x) (X := 32768) (y := y) (Y := 32768) (by omega) (by omega) ⟨by omega, by omega⟩ ⟨by omega, by omega⟩
              have p1 : -1073741824 ≤ x * y := by omega
              have p2 : x * y ≤ 1073741824 := by omega
              have hw0 : IntKind.i64.wrap ((i : Int) + (k : Nat)) = (m : Nat) := by rw [IntKind.wrap_i64]; omega
              have hw1 : IntKind.i64.wrap (x * y) = x * y := by rw [IntKind.wrap_i64]; omega
              have i1 : (i : Int) < 120 := by omega
              have i2 : (0 : Int) ≤ i := by omega
              have i3 : (m : Int) < 120 := by omega
              have i4 : (0 : Int) ≤ m := by omega
              have LI := hid (show i < (corN l 120).length by rw [corN_len]; omega)
              have LM := hid (show m < (corN l 120).length by rw [corN_len]; omega)
              have KA := hid (fun W => whole_any W (x * y) (by omega) (by omega))
              have KS := hid (fun W b h1 h2 => Add_any W (P2 k) (P2 k) b s (x * y) (IntAt.blk h1) h1 h2 (sm_small' (by omega) (by omega)) (sm_small' (by omega) (by omega)))
              have HM := hid hm
              have kk : k < k + 1 := by omega
              clear pr r1 r2 sr hs hm
              go_wp2
              go_region_held3 (fun w' => w'.cell? ⟨gs, k, none⟩ = some (.pointer (some ⟨P2 k, 0, none⟩)) ∧ w'.cell? ⟨gw, i, none⟩ = some (.int .i64 x) ∧ w'.cell? ⟨gw, m, none⟩ = some (.int .i64 y)) (go_keep) (first
                | (go_at_call 13; (with_reducible refine (KA.out wr.drew).mono ?_); rintro e' wA ⟨bA, rfl, hbA, hIA, hBA⟩; have SA := hid (HS.out.drew.below hBA); have IA := hid hIA; have a0 := SA.out.ptr (j := k) kk hlk; have a1 := SA.out.at_ (j := i) LI.out; have a2 := SA.out.at_ (j := m) LM.out; rw [CI.out] at a1; rw [CM.out] at a2; have XA := SA.out.N k kk; rw [upX_same] at XA; have XA := hid XA; clear hIA hBA)
                | (go_at_call 12; (with_reducible refine (KS.out wA bA XA.out IA.out).mono ?_); rintro e' wS ⟨rfl, hIS, hGS⟩; have SS := hid (SA.out.give (j := k) kk hIS hGS); have ns0 := SS.out.ptr (j := k) kk hlk; have ns1 := SS.out.at_ (j := i) LI.out; have ns2 := SS.out.at_ (j := m) LM.out; rw [CI.out] at ns1; rw [CM.out] at ns2; clear hIS hGS))
              all_goals
                rename_i hHeldZ
                clear hHeldZ a0 a1 a2 cp ci cm hw0 hw1
                try simp only [Exit.then]
                have SN := hid (SS.out.congr (Y := upX (corV l) k (corS l k (i + 1))) fun j hj => by rw [upX_twice, ST.out])
                go_wp2
                go_roundw
                case rel => exact ⟨i + 1, by omega, by go_num, SN⟩
                case measure => simp [intOf] <;> omega
            · have SN := hid (show Cs w wr Z9 (corN l 120) gw gs (k + 1) P2 (corV l) from HS.out.congr fun j hj => by rw [show i = 120 - k by omega]; exact corV_next l k j)
              go_wp2
              go_roundw
              case rel => exact ⟨k + 1, P2, by omega, by go_num, SN⟩
              case measure => simp [intOf] <;> omega
        · obtain rfl : k = 9 := by omega
          have c0 := HS.out.ptr (j := 0) (by omega) (by omega)
          have sr := corS_range G.out 0 120 (by omega)
          have zr := corZ_range G.out
          have HZ := hid (show corZ l = corS l 0 120 + 1 from rfl)
          obtain ⟨s, hs⟩ : ∃ s, s = corS l 0 120 := ⟨_, rfl⟩
          rw [← hs] at sr HZ
          have X0 := hid (show IntAt wr (P 0) s from by rw [hs]; exact HS.out.N 0 (by omega))
          have HSS := hid hs
          have KA := hid (fun W => NewInt_any W 1 (by omega) (by omega))
          have KS := hid (fun W b h1 h2 => Add_any W (P 0) (P 0) b s 1 (IntAt.blk h1) h1 h2 (sm_small' (by omega) (by omega)) (sm_small' (by omega) (by omega)))
          clear hs sr
          go_wp2
          go_region_held3 (fun w' => w'.cell? ⟨gs, 0, none⟩ = some (.pointer (some ⟨P 0, 0, none⟩))) (go_keep) (first
            | (go_at_call 14; (with_reducible refine (KA.out wr.drew).mono ?_); rintro e' wA ⟨bA, rfl, hbA, hIA, hBA⟩; have SA := hid (HS.out.drew.below hBA); have IA := hid hIA; have a0 := SA.out.ptr (j := 0) (by omega) (by omega); have XA := hid (X0.out.drew.below hBA (Nat.le_refl _)); clear hIA hBA)
            | (go_at_call 12; (with_reducible refine (KS.out wA bA XA.out IA.out).mono ?_); rintro e' wS ⟨rfl, hIS, hGS⟩; have SS := hid (SA.out.give (j := 0) (by omega) hIS hGS); have ns0 := SS.out.ptr (j := 0) (by omega) (by omega); clear hIS hGS))
          all_goals
            rename_i hHeldZ
            clear hHeldZ a0 c0
            try simp only [Exit.then]
            have SY := hid (show Cs w wS (corE l 0) (corN l 120) gw gs 9 P (corY l 0) from by rw [corE_zero]; exact SS.out.congr fun j hj => by rw [HSS.out]; exact corV_last l j)
            have KB := hid (BitLen_any wS (P 0) (corZ l) (SY.out.N 0 (by omega)) (sm_small' (by omega) (by omega)))
            have kr := corK_range G.out
            obtain ⟨N, hN⟩ : ∃ N, N = corK l := ⟨_, rfl⟩
            have hwK : IntKind.i64.wrap ((bitlen (corZ l).natAbs : Nat) - 31 : Int) = N := by rw [hN, IntKind.wrap_i64]; unfold corK at *; omega
            have HK := hid hN
            rw [← hN] at kr
            clear hN zr SS SA IA XA X0 HS
            go_wp2_with (go_at_call 15; (with_reducible refine KB.out.mono ?_); rintro e' w' ⟨rfl, rfl⟩)
            clear hwK ns0 KB KA KS
            go_loopw [83] (fun kv wr => ∃ k : Nat, k ≤ 9 ∧ kv = .int .i64 k ∧ Hid (Cs w wr (corE l k) (corN l 120) gw gs 9 P (corY l k))) (fun kv _ => 9 - (intOf kv).toNat)
            case atStart => exact ⟨0, by omega, rfl, SY⟩
            case round =>
              clear SY
              obtain ⟨k, hk, rfl, HS⟩ := hrel
              by_cases hlk : k < 9
              · have cp := HS.out.ptr (j := k) hlk hlk
                have xr := corX_le l hlk
                have zr := corZ_range G.out
                have gr := corG_range G.out hlk
                have HG := hid (show corG l (corX l k) = if 0 < N then corX l k / 2 ^ N.toNat else corX l k * 2 ^ (-N).toNat from by rw [HK.out]; rfl)
                have HE := hid (corE_set l hlk)
                have XK := hid (show IntAt wr (P k) (corX l k) from by have := HS.out.N k hlk; rwa [show corY l k k = corX l k from if_neg (by omega)] at this)
                have HY := hid (corY_next l k)
                obtain ⟨y, hy⟩ : ∃ y, y = corG l (corX l k) := ⟨_, rfl⟩
                rw [← hy] at gr HG HE HY
                have k0 : (0 : Int) ≤ k := by omega
                have k9 : (k : Int) < 9 := by omega
                generalize corX l k = x at *
                have xs : Sm x.natAbs := sm_small' (by omega) (by omega)
                have XS := hid xs
                have q1 := mul_bound (x := y) (X := 2147483648) (y := (k : Int)) (Y := 8) (by omega) (by omega) ⟨by omega, by omega⟩ ⟨by omega, by omega⟩
                have q2 := mul_bound (x := y * k) (X := 17179869184) (y := (k : Int)) (Y := 8) (by omega) (by omega) ⟨by omega, by omega⟩ ⟨by omega, by omega⟩
                have hw1 : IntKind.i64.wrap (y * k) = y * k := by rw [IntKind.wrap_i64]; omega
                have hw2 : IntKind.i64.wrap (y * k * k) = y * k * k := by rw [IntKind.wrap_i64]; omega
                have hw3 : IntKind.i64.wrap (y - y * k * k / 8192) = y - y * k * k / 8192 := by rw [IntKind.wrap_i64]; omega
                have KD := hid (fun W => down13 (y * k * k) W (by omega) (by omega))
                have KI := hid (fun W b h => Int64_any W b y h (by omega) (by omega))
                clear xs q1 q2 gr zr xr hy
                by_cases hs : 0 < N
                · obtain ⟨n, rfl⟩ : ∃ n : Nat, N = n := ⟨N.toNat, by omega⟩
                  have hgt : decide (0 < (n : Int)) = true := by simpa using hs
                  have hu : IntKind.u64.wrap (n : Int) = n := by rw [IntKind.wrap_u64]; omega
                  have hv := HG.out
                  rw [if_pos hs, Int.toNat_natCast] at hv
                  have HV := hid hv
                  have KX := hid (Rsh_any wr.drew (P k) (P k) x n (IntAt.blk XK.out.drew) XK.out.drew XS.out (by omega))
                  rw [← HV.out] at KX
                  clear hv
                  go_wp2
                  go_region_held3 (fun w' => w'.cell? ⟨gs, k, none⟩ = some (.pointer (some ⟨P k, 0, none⟩))) (go_keep) (first
                    | (go_at_call 16; (with_reducible refine KX.out.mono ?_); rintro e' wS ⟨rfl, hIS, hGS⟩; have SS := hid (HS.out.drew.give (j := k) hlk hIS hGS); have ns0 := SS.out.ptr (j := k) hlk hlk; clear hIS hGS))
                  all_goals
                    rename_i hHeldZ
                    clear hHeldZ cp
                    try simp only [Exit.then]
                    have SY := hid (show Cs w wS (corE l k) (corN l 120) gw gs 9 P (corY l (k + 1)) from SS.out.congr fun j hj => HY.out j)
                    have YK := hid (show IntAt wS (P k) y from by have := SS.out.N k hlk; rwa [upX_same] at this)
                    clear SS
                    go_wp2_with (first
                      | (go_at_call 18; (with_reducible refine (KI.out wS (P k) YK.out).mono ?_); rintro e' w' ⟨rfl, rfl⟩)
                      | (go_at_call 10; (with_reducible refine (KD.out wS).mono ?_); rintro e' wD ⟨rfl, hD⟩; have SD := hid (SY.out.below hD); have qc := IB.cell SD.out.Q k (by rw [corE_len]; exact hlk); have qf := Blk.frozen SD.out.Q k; clear hD))
                    have SE := hid (show Cs w (wD.setCell ⟨w.heap.size + 1, k, none⟩ (.int .i64 (y - y * k * k / 8192))) (corE l (k + 1)) (corN l 120) gw gs 9 P (corY l (k + 1)) from by rw [← HE.out]; exact SD.out.setQ k (y - y * k * k / 8192))
                    go_roundw
                    case rel => exact ⟨k + 1, by omega, by go_num, SE⟩
                    case measure => simp [intOf] <;> omega
                · obtain ⟨n, rfl⟩ : ∃ n : Nat, N = -(n : Int) := ⟨(-N).toNat, by omega⟩
                  have hgt : decide (0 < -(n : Int)) = false := by simp
                  have hu : IntKind.u64.wrap (n : Int) = n := by rw [IntKind.wrap_u64]; omega
                  have hu2 : IntKind.i64.wrap (n : Int) = n := by rw [IntKind.wrap_i64]; omega
                  have hv := HG.out
                  rw [if_neg hs, Int.neg_neg, Int.toNat_natCast] at hv
                  have HV := hid hv
                  have KX := hid (Lsh_any wr.drew (P k) (P k) x n (IntAt.blk XK.out.drew) XK.out.drew XS.out (by omega))
                  rw [← HV.out] at KX
                  clear hv
                  go_wp2
                  go_region_held3 (fun w' => w'.cell? ⟨gs, k, none⟩ = some (.pointer (some ⟨P k, 0, none⟩))) (go_keep) (first
                    | (go_at_call 17; (with_reducible refine KX.out.mono ?_); rintro e' wS ⟨rfl, hIS, hGS⟩; have SS := hid (HS.out.drew.give (j := k) hlk hIS hGS); have ns0 := SS.out.ptr (j := k) hlk hlk; clear hIS hGS))
                  all_goals
                    rename_i hHeldZ
                    clear hHeldZ cp
                    try simp only [Exit.then]
                    have SY := hid (show Cs w wS (corE l k) (corN l 120) gw gs 9 P (corY l (k + 1)) from SS.out.congr fun j hj => HY.out j)
                    have YK := hid (show IntAt wS (P k) y from by have := SS.out.N k hlk; rwa [upX_same] at this)
                    clear SS
                    go_wp2_with (first
                      | (go_at_call 18; (with_reducible refine (KI.out wS (P k) YK.out).mono ?_); rintro e' w' ⟨rfl, rfl⟩)
                      | (go_at_call 10; (with_reducible refine (KD.out wS).mono ?_); rintro e' wD ⟨rfl, hD⟩; have SD := hid (SY.out.below hD); have qc := IB.cell SD.out.Q k (by rw [corE_len]; exact hlk); have qf := Blk.frozen SD.out.Q k; clear hD))
                    have SE := hid (show Cs w (wD.setCell ⟨w.heap.size + 1, k, none⟩ (.int .i64 (y - y * k * k / 8192))) (corE l (k + 1)) (corN l 120) gw gs 9 P (corY l (k + 1)) from by rw [← HE.out]; exact SD.out.setQ k (y - y * k * k / 8192))
                    go_roundw
                    case rel => exact ⟨k + 1, by omega, by go_num, SE⟩
                    case measure => simp [intOf] <;> omega
              · obtain rfl : k = 9 := by omega
                have HI := hid HS.out.R
                have HF := hid HS.out.Q
                have LF := hid (corE_len l 9)
                have RE := hid (IB.setRow HI.out (corE l 9))
                have BE := hid (below_setRow HS.out.B (Nat.le_refl _) (agi (corE l 9)))
                go_wp2_with (first
                  | (refine wpList_loadI rfl 23 (.tmp 5) rfl _ 23 (corE l 9) 9 _ rfl HF.out Try.underlying23 rfl size9c LF.out ?_)
                  | (refine wpList_storeI rfl 23 (.tmp 2) (.tmp 122) rfl _ 23 Z9 (corE l 9) 9 rfl rfl HI.out size9c rfl LF.out ?_))
                refine bodyPost_ret (v := _) (hR _ _ _ 23 (corE l 9) _ 9 rfl RE.out Try.underlying23 rfl size9c LF.out) rfl ?_
                exact ⟨by rw [← corE_end, ← HK.out]; rfl, BE.out⟩
set_option maxHeartbeats 2000000 in
theorem refCorrelate_len (A : Option Addr) (c n : Nat) (w : World) (hn : n ≠ 120) : Calls Try.prog 6 #[.slice A n c] w (CorBad w 1) := by
  have hR := results_row3 (fn := Try.f6) (p := 2) (q := 3) (r := 4) (ty := 23) rfl
  have B0 := ((Below.refl w.heap.size w).alloc (Nat.le_refl _) (.cells (agi Z9) 23)).alloc (by simp) (.cells (agi Z9) 23)
  have I0 := Blk.alloc (IB.new w 23 Z9) (.cells (agi Z9) 23)
  have R0 := IB.new (w.alloc (.cells (agi Z9) 23)) 23 Z9
  simp only [World.size_alloc] at R0
  have RE := hid (IB.setRow I0 Z9)
  have BE := hid (below_setRow B0 (Nat.le_refl _) (agi Z9))
  have I0 := hid (show IB ((w.alloc (.cells (agi Z9) 23)).alloc (.cells (agi Z9) 23)) w.heap.size 23 Z9 from I0)
  have R0 := hid R0
  have d0 : ((n : Int) != 120) = true := by simp; omega
  have d1 : ¬ (n : Int) = 120 := by omega
  clear hn
  go_enter Try.func6, Try.ntmps6
  go_wp2_with (first
    | (refine wpList_loadI rfl 23 (.tmp 5) rfl _ 23 Z9 9 _ rfl R0.out Try.underlying23 rfl size9c rfl ?_)
    | (refine wpList_storeI rfl 23 (.tmp 2) (.tmp 17) rfl _ 23 Z9 Z9 9 rfl rfl I0.out size9c rfl rfl ?_))
  refine bodyPost_ret (v := _) (hR _ _ _ 23 Z9 _ 9 rfl RE.out Try.underlying23 rfl size9c rfl) rfl ?_
  exact ⟨rfl, BE.out⟩
set_option maxHeartbeats 2000000 in
theorem refCorrelate_not (A : Option Addr) (c : Nat) (l : List Int) (w : World) (hr : Rs w w.heap.size A l) (hn : l.length = 120) (g : all16 l = false) : Calls Try.prog 6 #[.slice A 120 c] w (CorBad w 2) := by
  have KR := hid (fun (W : World) (h : Rs W W.heap.size A l) => Right_any A c 120 W.heap.size l W h hn (by omega))
  rw [g] at KR
  have HR := hid hr
  have hR := results_row3 (fn := Try.f6) (p := 2) (q := 3) (r := 4) (ty := 23) rfl
  have B0 := ((Below.refl w.heap.size w).alloc (Nat.le_refl _) (.cells (agi Z9) 23)).alloc (by simp) (.cells (agi Z9) 23)
  have I0 := Blk.alloc (IB.new w 23 Z9) (.cells (agi Z9) 23)
  have R0 := IB.new (w.alloc (.cells (agi Z9) 23)) 23 Z9
  simp only [World.size_alloc] at R0
  have RE := hid (IB.setRow I0 Z9)
  have BE := hid (below_setRow B0 (Nat.le_refl _) (agi Z9))
  have I0 := hid (show IB ((w.alloc (.cells (agi Z9) 23)).alloc (.cells (agi Z9) 23)) w.heap.size 23 Z9 from I0)
  have R0 := hid R0
  clear hr hn g
  go_enter Try.func6, Try.ntmps6
  go_wp2_with fail
  refine (KR.out _ ((HR.out.below B0).more B0.size)).mono ?_
  rintro e w1 ⟨rfl, rfl⟩
  clear B0
  go_wp2_with (first
    | (refine wpList_loadI rfl 23 (.tmp 5) rfl _ 23 Z9 9 _ rfl R0.out Try.underlying23 rfl size9c rfl ?_)
    | (refine wpList_storeI rfl 23 (.tmp 2) (.tmp 21) rfl _ 23 Z9 Z9 9 rfl rfl I0.out size9c rfl rfl ?_))
  refine bodyPost_ret (v := _) (hR _ _ _ 23 Z9 _ 9 rfl RE.out Try.underlying23 rfl size9c rfl) rfl ?_
  exact ⟨rfl, BE.out⟩
end Go.Proofs.Ytnbenmpjpogldaa
