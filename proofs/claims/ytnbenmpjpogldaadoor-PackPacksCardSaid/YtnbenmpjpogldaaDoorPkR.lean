/- The walk of the reference's Pack. -/
import Derived.Test.YtnbenmpjpogldaaDoorPkI
import Derived.Test.YtnbenmpjpogldaaDoorPkH
import Derived.Test.YtnbenmpjpogldaaDoorDotM
import Derived.Test.YtnbenmpjpogldaaDoorBigAddO
namespace Go.Proofs.YtnbenmpjpogldaaDoor
set_option linter.unusedVariables false
set_option linter.unusedSimpArgs false
set_option maxRecDepth 100000
open Go.RowKit

theorem ownB_of_blk {w : World} {base g : Nat} {xs : List Int} (h : Blk w g 5 (bts xs).toArray) (hb : base ≤ g) (hl : xs.length ≤ 1000) : OwnB w base (some ⟨g, 0, none⟩) xs.length xs :=
  ⟨by rw [bts_len, Nat.mul_one], .inr ⟨g, xs.length, (bts xs).toArray, rfl, hb, h, Nat.le_refl _, by unfold maxLen; omega, by simp [bts_len], by rw [Nat.mul_one]; show (bts xs).take xs.length = bts xs; rw [List.take_of_length_le (by rw [bts_len]; exact Nat.le_refl _)]⟩⟩
theorem rb_one {w : World} {B g : Nat} {y : Int} (h : w.cell? ⟨g, 0, none⟩ = some (.int .u8 y)) (hg : g < B) : Rb w B (some ⟨g, 0, none⟩) [y] :=
  ⟨by simp [bts], fun _ => ⟨_, rfl, hg, fun j u hj => by
    match j, hj with
    | 0, hj => simp [bts] at hj; subst hj; rw [add_zero']; exact h⟩⟩
set_option maxHeartbeats 4000000 in
theorem refPack_any (ps : List Int) (w : World) (T : TabS w 0 widthL) (hl : ps.length = 25) (hw : W64 ps) :
    Calls Tryd.prog 11 #[.agg (agi ps)] w (PkOut ps w) := by
  have P0 := hid (IB.new w 28 ps)
  have B0 := hid ((Below.refl w.heap.size w).alloc (Nat.le_refl _) (.cells (agi ps) 28))
  have T0 := hid (T.below B0.out)
  have HL := hid hl
  obtain ⟨V, hV⟩ : ∃ V, V = w.alloc (.cells (agi ps) 28) := ⟨_, rfl⟩
  rw [← hV] at P0 B0 T0
  have HV := hid hV
  have KG := hid (refGood_any ps V T0.out hl)
  have KN := hid (fun W (h : TabS W 0 widthL) => numbers_any ps W h hl)
  have KP := hid (fun W => refParity_any ps W hl hw)
  clear T hl hw hV
  by_cases hg : pkTo ps 25 = true
  · have HG := hid hg
    have HBY := hid (show pkBytes ps = digL (pkW ps) ++ [chk (digL (pkW ps))] from if_pos hg)
    have HER := hid (show pkErr ps = 0 from if_pos hg)
    rw [hg] at KG
    clear hg
    go_enter Tryd.func11, Tryd.ntmps11
    go_wp2_with (first
      | (rw [← HV.out]; clear HV)
      | (refine wpList_loadI rfl 28 (.tmp 1) rfl _ 28 ps 25 _ rfl P0.out Tryd.underlying28 rfl size25d HL.out ?_)
      | (go_at_call 7; (with_reducible refine KG.out.mono ?_); rintro e w1 ⟨rfl, hB⟩; have P1 := hid (Blk.below' P0.out hB); have T1 := hid (T0.out.below hB); have B1 := hid (B0.out.trans (hB.mono B0.out.size)); clear hB)
      | (refine wpList_loadI rfl 28 (.tmp 1) rfl _ 28 ps 25 _ rfl P1.out Tryd.underlying28 rfl size25d HL.out ?_)
      | (go_at_call 15; (with_reducible refine (KN.out w1 T1.out).mono ?_); rintro e w2 ⟨A1, c1, A2, c2, A3, c3, rfl, h1, h2, h3, hB⟩; have O1 := hid h1.reads; have O2 := hid h2.reads; have P2 := hid (Blk.below' P1.out hB); have B2 := hid (B1.out.trans (hB.mono B1.out.size)); clear h1 h2 h3 hB))
    have I0 := hid (show IntAt (w2.alloc (.cells #[.bool false, .slice none 0 0] 54)) w2.heap.size ((pkX ps 0 : Nat) : Int) from IntAt_zero w2)
    have L0 := hid ((Below.refl w2.heap.size w2).alloc (Nat.le_refl _) (.cells #[.bool false, .slice none 0 0] 54))
    go_loopw [8, 23] (fun nv iv wr => ∃ i : Nat, i ≤ 25 ∧ iv = .int .i64 i ∧ nv = .int .i64 (pkA i : Nat) ∧ Hid (IntAt wr w2.heap.size ((pkX ps i : Nat) : Int)) ∧ Hid (Below w2.heap.size w2 wr)) (fun _ iv _ => 25 - (intOf iv).toNat)
    case atStart => exact ⟨0, by omega, rfl, rfl, I0, L0⟩
    case round =>
      clear I0 L0
      obtain ⟨i, hi, rfl, rfl, HI, HB⟩ := hrel
      by_cases hlt : i < 25
      · obtain ⟨ad, rfl, had, q0⟩ := O1.out.at_ (k := i) (by rw [HL.out]; exact hlt)
        obtain ⟨ae, rfl, hae, q1⟩ := O2.out.at_ (k := i) (by rw [pkB_len]; exact hlt)
        obtain ⟨hv1, hv2⟩ := pk_lt HG.out hlt
        obtain ⟨hn1, hn2, _⟩ := pkN_le hlt
        have ha := pkA_le (n := i + 1) (by omega)
        have hx := pkX_lt HG.out i hi
        have hx2 := pkX_lt HG.out (i + 1) hlt
        have SX := hid (show pkX ps (i + 1) = pkX ps i * 2 ^ pkN i + (ps.getD i 0).toNat from rfl)
        have SY := hid (show pkA (i + 1) = pkA i + pkN i from rfl)
        rw [SY.out] at ha
        rw [hv2] at q0
        rw [hn2] at q1
        have hXs : (pkX ps i * 2 ^ pkN i) < 340282366920938463463374607431768211456 := by
          have h1 : pkX ps (i + 1) < 2 ^ 106 := Nat.lt_of_lt_of_le hx2 (Nat.pow_le_pow_right (by decide) (by rw [SY.out]; omega))
          rw [SX.out] at h1
          have h2 : (2 : Nat) ^ 106 ≤ 340282366920938463463374607431768211456 := by decide
          omega
        have hXt : pkX ps i < 340282366920938463463374607431768211456 := by
          have h1 : pkX ps i < 2 ^ 106 := Nat.lt_of_lt_of_le hx (Nat.pow_le_pow_right (by decide) (by omega))
          have h2 : (2 : Nat) ^ 106 ≤ 340282366920938463463374607431768211456 := by decide
          omega
        have hvb : (ps.getD i 0).toNat < 64 := Nat.lt_of_lt_of_le hv1 (show 2 ^ pkN i ≤ 2 ^ 6 from Nat.pow_le_pow_right (by decide) hn1)
        generalize (ps.getD i 0).toNat = v at *
        generalize pkN i = n at *
        generalize pkX ps i = X at *
        generalize pkA i = a at *
        obtain ⟨Y, hY⟩ : ∃ Y, Y = X * 2 ^ n := ⟨_, rfl⟩
        rw [← hY] at hXs SX
        have KL := hid (show Calls Tryd.prog 18 #[.pointer (some ⟨w2.heap.size, 0, none⟩), .pointer (some ⟨w2.heap.size, 0, none⟩), .int .u64 (n : Nat)] wr (Gives wr w2.heap.size ((Y : Nat) : Int)) from by
          have h := Lsh_any wr w2.heap.size w2.heap.size ((X : Nat) : Int) n HI.out.blk HI.out (sm_of_lt hXt) (by omega)
          rw [show ((X : Nat) : Int) * 2 ^ n = ((Y : Nat) : Int) by rw [hY]; simp] at h
          exact h)
        have KA := hid (fun W => whole_any W ((v : Nat) : Int) (by omega) (by omega))
        have KS := hid (fun W b h1 h2 => Add_any W w2.heap.size w2.heap.size b ((Y : Nat) : Int) ((v : Nat) : Int) (IntAt.blk h1) h1 h2 (sm_of_lt hXs) (sm_of_lt (by show v < _; omega)))
        have hnu : IntKind.u64.wrap ((n : Nat) : Int) = (n : Nat) := by rw [IntKind.wrap_u64]; omega
        have hwa : IntKind.i64.wrap ((a : Int) + (n : Nat)) = (a : Int) + n := by rw [IntKind.wrap_i64]; omega
        have k1 : wr.cell? (ae.add i) = some (.int .i64 (n : Nat)) := (HB.out.cell (by rw [block_of_add]; exact hae)).trans q1
        have i0 : (0 : Int) ≤ i := by omega
        have i25 : (i : Int) < 25 := by omega
        have Q0 := hid q0
        have Q1 := hid q1
        have HA := hid had
        have HE := hid hae
        clear hv1 hv2 hn2 hx hx2 hXs hXt hY q0 q1 had hae
        go_wp2_with (first
          | (go_at_call 18; (with_reducible refine KL.out.mono ?_); rintro e wL ⟨rfl, hI, hG⟩; have IL := hid hI; have BL := hid (below_of_grownBy HB.out hG (Nat.le_refl _)); have kL := (BL.out.cell (p := ad.add i) (by rw [block_of_add]; exact HA.out)).trans Q0.out; clear hI hG)
          | (go_at_call 20; (with_reducible refine (KA.out wL).mono ?_); rintro e wA ⟨bA, rfl, hbA, hIA, hBA⟩; have IA := hid hIA; have XA := hid (IL.out.below hBA (Nat.le_refl _)); have BA := hid (BL.out.trans (hBA.mono BL.out.size)); clear hIA hBA)
          | (go_at_call 19; (with_reducible refine (KS.out wA bA XA.out IA.out).mono ?_); rintro e wS ⟨rfl, hIS, hGS⟩; have IS := hid hIS; have BS := hid (below_of_grownBy BA.out hGS (Nat.le_refl _)); have kS := (BS.out.cell (p := ae.add i) (by rw [block_of_add]; exact HE.out)).trans Q1.out; clear hIS hGS))
        go_roundw
        case rel => exact ⟨i + 1, by omega, by go_num, by rw [SY.out]; push_cast; rfl, hid (by rw [SX.out]; push_cast; exact IS.out), BS⟩
        case measure => simp [intOf] <;> omega
      · obtain rfl : i = 25 := by omega
        have hx := pkX_lt HG.out 25 (by omega)
        rw [pkA_end] at hx
        rw [show ((pkA 25 : Nat) : Int) = 106 from by rw [pkA_end]; rfl]
        try rw [show ((25 : Nat) : Int) = 25 from rfl]
        rw [pkQ_eq] at KP
        have hqq : pkQ ps < 2 := Nat.mod_lt _ (by decide)
        have HW := hid (pkW_eq HG.out)
        have hW := pkW_lt HG.out
        generalize pkQ ps = q at *
        generalize pkX ps 25 = X at *
        have KL1 := hid (show Calls Tryd.prog 18 #[.pointer (some ⟨w2.heap.size, 0, none⟩), .pointer (some ⟨w2.heap.size, 0, none⟩), .int .u64 1] wr (Gives wr w2.heap.size ((X * 2 : Nat) : Int)) from by
          have h := Lsh_any wr w2.heap.size w2.heap.size ((X : Nat) : Int) 1 HI.out.blk HI.out (sm_of_lt (by show X < _; omega)) (by omega)
          rw [show ((X : Nat) : Int) * 2 ^ 1 = ((X * 2 : Nat) : Int) by simp] at h
          exact h)
        have KA := hid (fun W => whole_any W ((q : Nat) : Int) (by omega) (by omega))
        have KS := hid (fun W b h1 h2 => show Calls Tryd.prog 19 #[.pointer (some ⟨w2.heap.size, 0, none⟩), .pointer (some ⟨w2.heap.size, 0, none⟩), .pointer (some ⟨b, 0, none⟩)] W (Gives W w2.heap.size ((X * 2 + q : Nat) : Int)) from by
          have h := Add_any W w2.heap.size w2.heap.size b ((X * 2 : Nat) : Int) ((q : Nat) : Int) (IntAt.blk h1) h1 h2 (sm_of_lt (by show X * 2 < _; omega)) (sm_of_lt (by show q < _; omega))
          rw [show ((X * 2 : Nat) : Int) + ((q : Nat) : Int) = ((X * 2 + q : Nat) : Int) by simp] at h
          exact h)
        have KL5 := hid (fun W (h1 : IntAt W w2.heap.size ((X * 2 + q : Nat) : Int)) => show Calls Tryd.prog 18 #[.pointer (some ⟨w2.heap.size, 0, none⟩), .pointer (some ⟨w2.heap.size, 0, none⟩), .int .u64 5] W (Gives W w2.heap.size ((pkW ps : Nat) : Int)) from by
          have h := Lsh_any W w2.heap.size w2.heap.size ((X * 2 + q : Nat) : Int) 5 h1.blk h1 (sm_of_lt (by show X * 2 + q < _; omega)) (by omega)
          rw [show ((X * 2 + q : Nat) : Int) * 2 ^ 5 = ((pkW ps : Nat) : Int) by rw [HW.out]; simp] at h
          exact h)
        have HBR := hid B2.out
        generalize pkW ps = Z at *
        clear hx hqq
        go_wp2_with (first
          | (go_at_call 18; (with_reducible refine KL1.out.mono ?_); rintro e wL ⟨rfl, hI, hG⟩; have IL := hid hI; have BL := hid (below_of_grownBy HB.out hG (Nat.le_refl _)); have PL := hid (Blk.below' P2.out BL.out); clear hI hG)
          | (refine wpList_loadI rfl 28 (.tmp 1) rfl _ 28 ps 25 _ rfl PL.out Tryd.underlying28 rfl size25d HL.out ?_)
          | (go_at_call 9; (with_reducible refine (KP.out wL).mono ?_); rintro e w6 ⟨rfl, hB⟩; have I6 := hid (IL.out.below hB (Nat.le_refl _)); have B6 := hid (BL.out.trans (hB.mono BL.out.size)); clear hB)
          | (go_at_call 20; (with_reducible refine (KA.out w6).mono ?_); rintro e wA ⟨bA, rfl, hbA, hIA, hBA⟩; have IA := hid hIA; have XA := hid (I6.out.below hBA (Nat.le_refl _)); have BA := hid (B6.out.trans (hBA.mono B6.out.size)); clear hIA hBA)
          | (go_at_call 19; (with_reducible refine (KS.out wA bA XA.out IA.out).mono ?_); rintro e wS ⟨rfl, hIS, hGS⟩; have IS := hid hIS; have BS := hid (below_of_grownBy BA.out hGS (Nat.le_refl _)); clear hIS hGS)
          | (go_at_call 18; (with_reducible refine (KL5.out wS IS.out).mono ?_); rintro e wT ⟨rfl, hI, hG⟩; have IT := hid hI; have BT := hid (below_of_grownBy BS.out hG (Nat.le_refl _)); clear hI hG)
          | (at_make; refine wpList_makeB rfl _ _ rfl .i64 .i64 14 rfl rfl wT.heap.size (by omega) (Nat.le_refl _) ?_; intro w7 hO hG; have G7 := hid (OwnB.blk hO (by simp)); have L7 := hid ((Below.refl wT.heap.size wT).grown hG (Nat.le_refl _) (by simp)); have I7 := hid (IT.out.below L7.out (Nat.le_refl _)); have B7 := hid (BT.out.trans (L7.out.mono BT.out.size)); clear hO hG)
          | (go_at_call 21; (with_reducible refine (FillBytes_any w7 w2.heap.size wT.heap.size Z I7.out hW G7.out).mono ?_); rintro e w8 ⟨rfl, hS, hB⟩; have G8 := hid hS; have B8 := hid (B7.out.trans (hB.mono BT.out.size)); clear hS hB)
          | (go_at_call 22; (with_reducible refine (refCheck_any (some ⟨wT.heap.size, 0, none⟩) 14 14 (digL Z) w8 (rb_all G8.out) (digL_len _) (by omega) (digL_byts _)).mono ?_); rintro e w' ⟨rfl, rfl⟩)
          | (at_builtin; refine wpList_catB rfl (.tmp 69) (.tmp 72) rfl wT.heap.size (some ⟨wT.heap.size, 0, none⟩) 14 14 (digL Z) rfl (digL_len _) (ownB_of_blk (Blk.alloc G8.out _) (Nat.le_refl _) (by rw [digL_len]; omega)) _ _ 1 1 [chk (digL Z)] rfl rfl (rb_one (cell_newE rfl) (Nat.lt_succ_self _)) (by omega) (by have := Blk.lt G8.out; rw [World.size_alloc]; omega) ?_; intro A9 c9 w9 hO hG; have O9 := hid hO; have B9 := hid ((B8.out.alloc B8.out.size _).grown hG (by have := B8.out.size; rw [World.size_alloc]; omega) (fun k hk => by cases hk; exact BT.out.size)); clear hO hG))
        go_ret2
        exact ⟨A9, c9, by rw [HER.out, HBY.out, List.length_append, digL_len]; rfl, by rw [HBY.out]; exact O9.out.reads, HBR.out.trans (B9.out.mono HBR.out.size)⟩
  · have hgf : pkTo ps 25 = false := by simpa using hg
    have HBY := hid (show pkBytes ps = [] from if_neg hg)
    have HER := hid (show pkErr ps = 2 from if_neg hg)
    rw [hgf] at KG
    clear hg hgf
    go_enter Tryd.func11, Tryd.ntmps11
    go_wp2_with (first
      | (rw [← HV.out]; clear HV)
      | (refine wpList_loadI rfl 28 (.tmp 1) rfl _ 28 ps 25 _ rfl P0.out Tryd.underlying28 rfl size25d HL.out ?_)
      | (go_at_call 7; (with_reducible refine KG.out.mono ?_); rintro e w1 ⟨rfl, hB⟩; have B1 := hid (B0.out.trans (hB.mono B0.out.size)); clear hB))
    go_ret2
    exact ⟨none, 0, by rw [HBY.out, HER.out]; rfl, by rw [HBY.out]; exact Rb.nil, B1.out⟩
end Go.Proofs.YtnbenmpjpogldaaDoor
