/- The walk of the reference's Pick. -/
import Derived.Test.YtcfmipobgljbeaaPikW
import Derived.Test.YtcfmipobgljbeaaPastR
namespace Go.Proofs.Ytcfmipobgljbeaa
set_option linter.unusedVariables false
set_option linter.unusedSimpArgs false
set_option maxRecDepth 100000
open Go.RowKit

theorem size3q : (Try.prog.info? 73).map (·.size) = some 3 := by kernel_rfl

set_option maxHeartbeats 4000000 in
theorem refPick_any (h ring t : List Int) (p : Value) (A : Option Addr) (c n : Nat) (w : World) (hh : h.length = 80) (hr : Rs w w.heap.size A t) (hn : t.length = n) (hl : n ≤ 17592186044416) (hf : FoldFn 45 p w ring) :
    Calls Try.prog 17 #[.agg (agi h), .func (.func 45) #[] #[p], .slice A n c] w (PkAns ring h t w) := by
  have BA := hid ((Below.refl w.heap.size w).alloc (Nat.le_refl _) (.cells (agi h) 34))
  have FB := hid (fun (er : Int) (he : pkErr ring h t = er) (h0 : er ≠ 0) w' (hB : Below w.heap.size w w') => PkAns.bad (ring := ring) (h := h) (t := t) he h0 hB)
  by_cases h40 : n = 40
  rotate_left
  · have HE := hid (show pkErr ring h t = 1 by unfold pkErr; rw [if_neg (by omega)])
    have d0 : ((n : Int) != 40) = true := by simp; omega
    have d1 : ¬ (n : Int) = 40 := by omega
    clear h40 hn hr hf
    go_enter Try.func17, Try.ntmps17
    go_wp2
    ((try simp only [Exit.inBlock, Exit.then]); refine bodyPost_ret (results_tmp4 rfl _ _ _) rfl ?_)
    exact FB.out _ HE.out (by decide) _ BA.out
  subst h40
  have I0 := hid (IB.new w 34 h)
  have HT := hid ((hr.below BA.out).more BA.out.size)
  have HH := hid hh
  have HN := hid hn
  have KF := hid (hf.below BA.out)
  have hnf := func_nil 45 p
  clear hr hf hh hn
  obtain ⟨V, hV⟩ : ∃ V, V = w.alloc (.cells (agi h) 34) := ⟨_, rfl⟩
  rw [← hV] at I0 HT KF BA
  have HV := hid hV
  clear hV
  cases gt : all16 t with
  | false =>
    have HE := hid (show pkErr ring h t = 2 by unfold pkErr; rw [if_pos HN.out, gt]; rfl)
    have KR := hid (Right_any A c 40 V.heap.size t V HT.out HN.out (by omega))
    rw [gt] at KR
    clear gt
    go_enter Try.func17, Try.ntmps17
    go_wp2_with fail
    rw [← HV.out]
    refine KR.out.mono ?_
    rintro e w1 ⟨rfl, rfl⟩
    go_wp2
    ((try simp only [Exit.inBlock, Exit.then]); refine bodyPost_ret (results_tmp4 rfl _ _ _) rfl ?_)
    exact FB.out _ HE.out (by decide) _ BA.out
  | true =>
  have KR := hid (Right_any A c 40 V.heap.size t V HT.out HN.out (by omega))
  rw [gt] at KR
  have KR2 := hid (Right_any (some ⟨w.heap.size, 0, none⟩) 80 80 V.heap.size h V (rs_block1 I0.out) HH.out (by omega))
  cases gh : all16 h with
  | false =>
    have HE := hid (show pkErr ring h t = 2 by unfold pkErr; rw [if_pos HN.out, gt, gh]; rfl)
    rw [gh] at KR2
    clear gt gh
    go_enter Try.func17, Try.ntmps17
    go_wp2_with fail
    rw [← HV.out]
    refine KR.out.mono ?_
    rintro e w1 ⟨rfl, rfl⟩
    go_wp2_with fail
    refine KR2.out.mono ?_
    rintro e w1 ⟨rfl, rfl⟩
    go_wp2
    ((try simp only [Exit.inBlock, Exit.then]); refine bodyPost_ret (results_tmp4 rfl _ _ _) rfl ?_)
    exact FB.out _ HE.out (by decide) _ BA.out
  | true =>
  rw [gh] at KR2
  have HE := hid (show pkErr ring h t = if pkR ring then 0 else 1 by unfold pkErr; rw [if_pos HN.out, gt, gh]; rfl)
  have T16 := hid (all16_at gt)
  have H16 := hid (all16_at gh)
  clear gt gh
  go_enter Try.func17, Try.ntmps17
  go_wp2_with fail
  rw [← HV.out]
  refine KR.out.mono ?_
  rintro e w1 ⟨rfl, rfl⟩
  go_wp2_with fail
  refine KR2.out.mono ?_
  rintro e w1 ⟨rfl, rfl⟩
  clear KR KR2
  go_wp2_with (refine wpList_storeI rfl 73 (.tmp 10) (.tmp 32) rfl _ 73 [0, 0, 0] [20, 0, 0] 3 rfl rfl (IB.new _ _ [0, 0, 0]) size3q rfl rfl ?_)
  have BB := hid (show IB ((V.alloc (.cells (agi [0, 0, 0]) 73)).setRow V.heap.size (agi [20, 0, 0])) V.heap.size 73 [20, 0, 0] from IB.setRow (IB.new V _ [0, 0, 0]) _)
  have BL := hid (show Below V.heap.size V ((V.alloc (.cells (agi [0, 0, 0]) 73)).setRow V.heap.size (agi [20, 0, 0])) from below_setRow ((Below.refl _ _).alloc (Nat.le_refl _) _) (Nat.le_refl _) _)
  go_loopw [11] (fun iv wr => ∃ (n L : Nat), n ≤ 60 ∧ Hid (L = 20 + n) ∧ iv = .int .i64 L ∧ Hid (IB wr V.heap.size 73 [(pkS ring h t n).1, (pkS ring h t n).2.1, (pkS ring h t n).2.2]) ∧ Hid (0 < n → pkR ring = true) ∧ Hid (Below V.heap.size V wr)) (fun iv _ => 80 - (intOf iv).toNat)
  case atStart => exact ⟨0, 20, by omega, hid rfl, rfl, BB, hid (fun h => by omega), BL⟩
  case round =>
    clear BB BL
    obtain ⟨n, L, hn, HLL, rfl, HQB, HG, HB⟩ := hrel
    have hL := HLL.out
    by_cases hlt : n < 60
    · have o5 : (L : Int) < 80 := by omega
      have HP := hid (pastL_len (h := h) (lag := (20 : Int) + n) (pastB_yes (by omega) (by omega)))
      have HP16 := hid (pastL_in H16.out ((20 : Int) + n))
      have KP := hid (fun W => show Calls Try.prog 47 #[.agg (agi h), .int .i64 (L : Nat)] W (fun e w' => ∃ A c, e = .returned (.tuple #[.slice A 40 c, .int .i64 0]) ∧ Own w' W.heap.size A c (pastL h ((20 : Int) + n)) ∧ Below W.heap.size W w') from by
        have hLi : (L : Int) = (20 : Int) + n := by omega
        rw [hLi]
        refine (refPast_any h ((20 : Int) + n) W HH.out).mono ?_
        rintro e w' ⟨A, c, h1, h2, h3⟩
        rw [pastB_yes (by omega) (by omega), HP.out] at h1
        exact ⟨A, c, h1, h2, h3⟩)
      have VL := hid (pk_fo (ring := ring) HP.out HP16.out)
      have ST := hid (show pkS ring h t (n + 1) = if decide (0 < pkC ring h t n) && betterB (pkC ring h t n) (pkE ring h n) (pkS ring h t n).2.1 (pkS ring h t n).2.2 then (20 + (n : Int), pkC ring h t n, pkE ring h n) else pkS ring h t n from rfl)
      unfold pkC pkE pkV at ST
      have HL2 := hid (show L + 1 = 20 + (n + 1) by have := HLL.out; omega)
      have hLI := hid (show (20 : Int) + n = (L : Nat) by have := HLL.out; omega)
      have P64 := hid (w64_of_in16 (all16_at HP16.out))
      have V16 := hid (foL_in ring (pastL h ((20 : Int) + n)))
      have rS := pkS_rng ring h T16.out n
      have bnn := pkS_be ring h t n
      generalize pastL h ((20 : Int) + n) = v at *
      have KF2 := hid (fun W (hB : Below V.heap.size V W) A c (hr : Rs W W.heap.size A v) => KF.out W hB A c v hr HP.out P64.out)
      generalize foL ring v = f at *
      have KD1 := hid (fun W A1 c1 A2 c2 (h1 : Rs W W.heap.size A1 t) (h2 : Rs W W.heap.size A2 f) (hf : f.length = 40) => dot_any A1 A2 c1 c2 40 40 t f W h1 h2 HN.out hf (Nat.le_refl _) (by omega) T16.out (all16_at V16.out))
      have KD2 := hid (fun W A2 c2 (h2 : Rs W W.heap.size A2 f) (hf : f.length = 40) => dot_any A2 A2 c2 c2 40 40 f f W h2 h2 hf hf (Nat.le_refl _) (by omega) (all16_at V16.out) (all16_at V16.out))
      have KRF := hid (fun W A2 c2 n (h2 : Rs W W.heap.size A2 f) (hf : f.length = n) (hn : n ≤ 17592186044416) => Right_any A2 c2 n W.heap.size f W h2 hf hn)
      have rC := dotL_range T16.out (all16_at V16.out) 40
      have rE := dotL_range (all16_at V16.out) (all16_at V16.out) 40
      have pos := dot_pos (a := t) (b := f) (n := 40)
      obtain ⟨q1, hq1⟩ : ∃ q1, q1 = (pkS ring h t n).1 := ⟨_, rfl⟩
      obtain ⟨q2, hq2⟩ : ∃ q2, q2 = (pkS ring h t n).2.1 := ⟨_, rfl⟩
      obtain ⟨q3, hq3⟩ : ∃ q3, q3 = (pkS ring h t n).2.2 := ⟨_, rfl⟩
      rw [← hq2, ← hq3] at ST rS
      rw [← hq3] at bnn
      rw [← hq1, ← hq2, ← hq3] at HQB
      have HQ := hid (show pkS ring h t n = (q1, q2, q3) by rw [hq1, hq2, hq3])
      have IW := hid (Blk.below' I0.out HB.out)
      have TW := hid ((HT.out.below HB.out).more HB.out.size)
      clear hq1 hq2 hq3 hL
      generalize dotL t f 40 = C at *
      generalize dotL f f 40 = E at *
      have KB := hid (fun W => refBetter_any C E q2 q3 W (by omega) (by omega) (by omega) (by omega) (by omega) (by omega) (by omega) (by omega))
      have POS := hid pos
      have BNN := hid bnn
      clear pos bnn rS rC rE
      go_wp2_with (refine wpList_loadI rfl 34 (.tmp 3) rfl _ 34 h 80 _ rfl IW.out Try.underlying34 rfl size80q HH.out ?_)
      refine (KP.out wr).mono ?_
      rintro e w1 ⟨A1, c1, rfl, hO, hB⟩
      have B1 := hid (HB.out.trans (hB.mono HB.out.size))
      have O1 := hid hO.reads
      have TW1 := hid ((TW.out.below hB).more hB.size)
      have Q1 := hid (Blk.below' HQB.out hB)
      clear hO hB KP IW
      go_wp2_with fail
      refine (KF2.out w1 B1.out A1 c1 O1.out).mono ?_
      rintro e w2 ⟨A2, c2, rfl, hO, hB⟩
      have B2 := hid (B1.out.trans (hB.mono B1.out.size))
      have O2 := hid hO.reads
      have TW2 := hid ((TW1.out.below hB).more hB.size)
      have Q2 := hid (Blk.below' Q1.out hB)
      clear hO hB KF2 O1 TW1 B1 HB TW Q1 HQB
      cases hR : pkR ring with
      | false =>
        have HE1 := hid (show pkErr ring h t = 1 by rw [HE.out, hR]; rfl)
        have F0 := VL.out
        rw [hR] at F0
        simp only [if_false, Bool.false_eq_true] at F0
        rw [F0]
        clear F0 hR ST
        go_wp2
        ((try simp only [Exit.inBlock, Exit.then]); refine bodyPost_ret (results_tmp4 rfl _ _ _) rfl ?_)
        exact FB.out _ HE1.out (by decide) _ (BA.out.trans (B2.out.mono BA.out.size))
      | true =>
        have F40 := VL.out
        rw [hR] at F40
        simp only [if_true] at F40
        rw [F40]
        have KRF2 := hid (KRF.out w2 A2 c2 40 O2.out F40 (by omega))
        have HG2 := hid (fun (_ : 0 < n + 1) => hR)
        have L40 := hid F40
        rw [V16.out] at KRF2
        clear hR F40 KRF
        go_wp2_with fail
        refine KRF2.out.mono ?_
        rintro e w3 ⟨rfl, rfl⟩
        go_wp2_with fail
        refine (KD1.out w2 A c A2 c2 TW2.out O2.out L40.out).mono ?_
        rintro e w3 ⟨rfl, hB⟩
        have B3 := hid (B2.out.trans (hB.mono B2.out.size))
        have O3 := hid ((O2.out.below hB).more hB.size)
        have Q3 := hid (Blk.below' Q2.out hB)
        clear hB KD1 O2 Q2 TW2 B2
        go_wp2_with fail
        refine (KD2.out w3 A2 c2 O3.out L40.out).mono ?_
        rintro e w4 ⟨rfl, hB⟩
        have B4 := hid (B3.out.trans (hB.mono B3.out.size))
        have Q4 := hid (Blk.below' Q3.out hB)
        clear hB KD2 O3 Q3 B3
        by_cases hC : C ≤ 0
        · have NS := hid (show pkS ring h t (n + 1) = (q1, q2, q3) by rw [ST.out, decide_eq_false (by omega)]; exact HQ.out)
          have hC2 : decide (0 < C) = false := by simp; omega
          clear ST
          go_wp2
          go_roundw
          case rel => exact ⟨n + 1, L + 1, by omega, HL2, by go_num, hid (by rw [NS.out]; exact Q4.out), HG2, B4⟩
          case measure => simp [intOf] <;> omega
        · have hC2 : decide (0 < C) = true := by simp; omega
          obtain ⟨b, hb⟩ : ∃ b, b = betterB C E q2 q3 := ⟨_, rfl⟩
          rw [← hb, hC2] at ST
          rw [← hb] at KB
          clear hb
          have c1 := IB.cell Q4.out 1 (by simp)
          have c2 := IB.cell Q4.out 2 (by simp)
          simp only [List.getD_cons_succ, List.getD_cons_zero] at c1 c2
          go_wp2_with fail
          refine (KB.out _).mono ?_
          rintro en w5 ⟨rfl, hB⟩
          have B5 := hid (B4.out.trans (hB.mono B4.out.size))
          have Q5 := hid (Blk.below' Q4.out hB)
          clear hB Q4 B4 c1 c2
          cases b
          · have NS := hid (show pkS ring h t (n + 1) = (q1, q2, q3) by rw [ST.out]; exact HQ.out)
            go_wp2
            go_roundw
            case rel => exact ⟨n + 1, L + 1, by omega, HL2, by go_num, hid (by rw [NS.out]; exact Q5.out), HG2, B5⟩
            case measure => simp [intOf] <;> omega
          · have NS := hid (show pkS ring h t (n + 1) = (((L : Nat) : Int), C, E) by rw [ST.out, ← hLI.out]; rfl)
            have Q6 := hid (IB.setRow Q5.out [((L : Nat) : Int), C, E])
            have B6 := hid (below_setRow B5.out (g := V.heap.size) (Nat.le_refl _) (agi [((L : Nat) : Int), C, E]))
            go_wp2_with (refine wpList_storeI rfl 73 (.tmp 10) (.tmp 74) rfl _ 73 [q1, q2, q3] [((L : Nat) : Int), C, E] 3 rfl rfl Q5.out size3q rfl rfl ?_)
            go_roundw
            case rel => exact ⟨n + 1, L + 1, by omega, HL2, by go_num, hid (by rw [NS.out]; exact Q6.out), HG2, B6⟩
            case measure => simp [intOf] <;> omega
    · obtain rfl : n = 60 := by omega
      obtain rfl : L = 80 := by omega
      have HE0 := hid (show pkErr ring h t = 0 by rw [HE.out, HG.out (by omega)]; rfl)
      clear hL hlt
      have c0 := IB.cell HQB.out 0 (by simp)
      have c1 := IB.cell HQB.out 1 (by simp)
      have c2 := IB.cell HQB.out 2 (by simp)
      simp only [List.getD_cons_succ, List.getD_cons_zero] at c0 c1 c2
      have FIN := hid (fun m => HB.out.trans ((below_drN wr m).mono HB.out.size))
      go_wp2
      go_quiet (fail)
      go_wp2
      ((try simp only [Exit.inBlock, Exit.then]); refine bodyPost_ret (results_tmp4 rfl _ _ _) rfl ?_)
      exact ⟨by unfold pkA pkB pkD; rw [HE0.out]; rfl, BA.out.trans ((FIN.out _).mono BA.out.size)⟩
end Go.Proofs.Ytcfmipobgljbeaa
