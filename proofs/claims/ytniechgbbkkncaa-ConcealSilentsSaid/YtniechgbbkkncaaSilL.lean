/- The walk of the law ConcealSilents. -/
import Derived.Test.YtniechgbbkkncaaSilR
import Derived.Test.YtniechgbbkkncaaEqS
namespace Go.Proofs.Ytniechgbbkkncaa
set_option linter.unusedVariables false
set_option linter.unusedSimpArgs false
set_option maxRecDepth 100000
open Go.RowKit

/-- Behind a call: the box, the answer's box, the answer's samples. -/
structure LMx (w V : World) (m mm : Mm) (Y : List Int) (A : Option Addr) (g : Nat) : Prop where
  J : MB V w.heap.size m
  Q : MB V g mm
  R : Rs V V.heap.size A Y
  B : Below w.heap.size w V
theorem LMx.below {w V V' : World} {m mm : Mm} {Y : List Int} {A : Option Addr} {g : Nat} (s : LMx w V m mm Y A g) (hb : Below V.heap.size V V') : LMx w V' m mm Y A g :=
  ⟨Blk.below' s.J hb, Blk.below' s.Q hb, (s.R.below hb).more hb.size, s.B.trans (hb.mono s.B.size)⟩
theorem newzero (w : World) : MB (w.alloc (.cells Try.zeroCells42 42)) w.heap.size zeroM := by rw [zeroM_ag]; exact MB.new w zeroM
theorem storedM (w : World) (mm : Mm) : MB ((w.alloc (.cells Try.zeroCells42 42)).setRow w.heap.size mm.ag) w.heap.size mm := (newzero w).setRow mm
theorem silY_fresh : (silY freshM).length = 40 := by
  have : goodM freshM = true := by decide
  unfold silY
  rw [if_pos this, nzL_len]

set_option maxHeartbeats 4000000 in
theorem walkConcealSilents (w : World) (m : Mm) (k : m.ok) (hw64 : W64 m.nums) :
    Calls Try.prog 7 #[.agg m.ag] w fun e w' => e = .returned (.bool true) ∧ Below w.heap.size w w' := by
  have K1 := hid (fun W => silent_any m k W)
  have K2 := hid (fun W => refSilent_any m k hw64 W)
  have K3 := hid (fun W => refFresh_any W)
  have K4 := hid (fun W => silent_any freshM freshM_ok W)
  have HK := hid (silR_ok k)
  have HF := hid (silR_ok freshM_ok)
  have HYF := hid silY_fresh
  have HY40 := hid (show (silY m).length ≤ 40 by unfold silY; split <;> simp [nzL_len])
  have heq := fun w => run_eql_mem (silR m) (silR_ok k) w
  obtain ⟨mm, hmm⟩ : ∃ mm, mm = silR m := ⟨_, rfl⟩
  obtain ⟨Y, hYY⟩ : ∃ Y, Y = silY m := ⟨_, rfl⟩
  obtain ⟨er, her⟩ : ∃ er, er = errOf (goodM m) := ⟨_, rfl⟩
  obtain ⟨mf, hmf⟩ : ∃ mf, mf = silR freshM := ⟨_, rfl⟩
  obtain ⟨YF, hYF⟩ : ∃ YF, YF = silY freshM := ⟨_, rfl⟩
  obtain ⟨ef, hef⟩ : ∃ ef, ef = errOf (goodM freshM) := ⟨_, rfl⟩
  rw [← hmm, ← hYY, ← her] at K1 K2
  rw [← hmf, ← hYF, ← hef] at K4
  rw [← hmm] at HK heq
  rw [← hmf] at HF
  rw [← hYF] at HYF
  rw [← hYY] at HY40
  clear hmm hYY her hmf hYF hef
  have I0 := hid (MB.new w m)
  have L0 := hid ((Below.refl _ w).alloc (Nat.le_refl _) (.cells m.ag 42))
  have K := hid k
  clear k hw64
  go_enter Try.func7, Try.ntmps7
  go_wp2_with (refine wpList_loadM rfl (.tmp 1) rfl _ m rfl I0.out K.out ?_)
  refine (K1.out _).mono ?_
  rintro e w1 ⟨A1, c1, rfl, hO, hB⟩
  have I1 := hid (Blk.below' I0.out hB)
  have L1 := hid (L0.out.trans (hB.mono L0.out.size))
  have R1 := hid hO.reads
  clear hO hB I0 L0
  go_wp2_with (first
    | (refine wpList_storeM rfl (.tmp 3) (.tmp 15) rfl _ zeroM mm rfl rfl (newzero w1) zeroM_ok HK.out ?_
       have B1 := below_stored w1 (.cells Try.zeroCells42 42) mm.ag
       obtain ⟨V, hV⟩ : ∃ V, V = (w1.alloc (.cells Try.zeroCells42 42)).setRow w1.heap.size mm.ag := ⟨_, rfl⟩
       have SV := hid (show LMx w V m mm Y A1 w1.heap.size by rw [hV]; exact ⟨Blk.below' I1.out B1, storedM w1 mm, (R1.out.below B1).more B1.size, L1.out.trans (B1.mono L1.out.size)⟩)
       rw [← hV]
       clear hV B1 I1 R1 L1)
    | (refine wpList_loadM rfl (.tmp 1) rfl _ m rfl SV.out.J K.out ?_))
  refine (K2.out _).mono ?_
  rintro e w2 ⟨A2, c2, rfl, hO, hB⟩
  have S2 := hid (SV.out.below hB)
  have R2 := hid hO.reads
  clear hO hB SV
  go_wp2_with (refine wpList_storeM rfl (.tmp 6) (.tmp 21) rfl _ zeroM mm rfl rfl (newzero w2) zeroM_ok HK.out ?_
               have B2 := below_stored w2 (.cells Try.zeroCells42 42) mm.ag
               obtain ⟨V2, hV⟩ : ∃ V, V = (w2.alloc (.cells Try.zeroCells42 42)).setRow w2.heap.size mm.ag := ⟨_, rfl⟩
               have S3 := hid (show LMx w V2 m mm Y A1 w1.heap.size by rw [hV]; exact S2.out.below B2)
               have Q3 := hid (show MB V2 w2.heap.size mm by rw [hV]; exact storedM w2 mm)
               have R3 := hid (show Rs V2 V2.heap.size A2 Y by rw [hV]; exact (R2.out.below B2).more B2.size)
               rw [← hV]
               clear hV B2 S2 R2)
  refine (K3.out _).mono ?_
  rintro e w3 ⟨rfl, hB⟩
  have S4 := hid (S3.out.below hB)
  have Q4 := hid (Blk.below' Q3.out hB)
  have R4 := hid ((R3.out.below hB).more hB.size)
  clear hB S3 Q3 R3
  go_wp2_with fail
  refine (K4.out _).mono ?_
  rintro e w4 ⟨A4, c4, rfl, hO, hB⟩
  have S5 := hid (S4.out.below hB)
  have Q5 := hid (Blk.below' Q4.out hB)
  have R5 := hid ((R4.out.below hB).more hB.size)
  clear hB hO S4 Q4 R4
  rw [HYF.out]
  go_wp2_with (first
    | (refine wpList_storeM rfl (.tmp 9) (.tmp 27) rfl _ zeroM mf rfl rfl (newzero w4) zeroM_ok HF.out ?_
       have B4 := below_stored w4 (.cells Try.zeroCells42 42) mf.ag
       obtain ⟨V3, hV⟩ : ∃ V, V = (w4.alloc (.cells Try.zeroCells42 42)).setRow w4.heap.size mf.ag := ⟨_, rfl⟩
       have S6 := hid (show LMx w V3 m mm Y A1 w1.heap.size by rw [hV]; exact S5.out.below B4)
       have Q6 := hid (show MB V3 w2.heap.size mm by rw [hV]; exact Blk.below' Q5.out B4)
       have R6 := hid (show Rs V3 V3.heap.size A2 Y by rw [hV]; exact (R5.out.below B4).more B4.size)
       rw [← hV]
       clear hV B4 S5 Q5 R5)
    | (refine wpList_loadM rfl (.tmp 3) rfl _ mm rfl S6.out.Q HK.out ?_)
    | (refine wpList_loadM rfl (.tmp 6) rfl _ mm rfl Q6.out HK.out ?_))
  refine (Same_yes A1 A2 c1 c2 Y.length _ _ Y _ S6.out.R R6.out rfl (by have := HY40.out; omega)).mono ?_
  rintro e w8 ⟨rfl, hB⟩
  have S8 := hid (S6.out.below hB)
  clear hB
  go_wp2
  go_ret
  exact ⟨by simp, S8.out.B⟩
end Go.Proofs.Ytniechgbbkkncaa
