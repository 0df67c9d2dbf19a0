/- The walk of the reference's closure that takes bits off a long number. -/
import Derived.Test.YtnbenmpjpogldaaDoorUnS
import Derived.Test.YtnbenmpjpogldaaDoorUnC
namespace Go.Proofs.YtnbenmpjpogldaaDoor
set_option linter.unusedVariables false
set_option linter.unusedSimpArgs false
set_option maxRecDepth 100000
open Go.RowKit

/-- A number of words stays where only a block that holds no words is written. -/
theorem Nm.keptT {w w' : World} {v : Value} {n : Nat} (h : Nm w v n) {g : Nat} {t : TypeId} {cs : Array Value} (hb : Blk w g t cs) (ht : t ≠ 73) (hg : w.grownBy w' (some g)) : Nm w' v n := by
  obtain ⟨ao, len, cap, ws, rfl, hr, h2, hn⟩ := h
  refine ⟨ao, len, cap, ws, rfl, hr.of_block fun a ha => hg.block _ (hr.lt a ha) ?_, h2, hn⟩
  intro he
  obtain ⟨_, cur, fz, hh, _⟩ := hr.cells a ha
  have := Option.some.inj he
  unfold Blk at hb
  rw [this, hb] at hh
  simp only [Option.some.injEq, Obj.cells.injEq] at hh
  exact ht hh.2.1
theorem IntAt.setInt {w : World} {b g : Nat} {z : Int} {t : TypeId} {cs : Array Value} (h : IntAt w b z) (hb : Blk w g t cs) (ht : t ≠ 73) (hne : b ≠ g) (i : Nat) (v : Value) : IntAt (w.setCell ⟨g, i, none⟩ v) b z := by
  obtain ⟨u, h1, h2⟩ := h
  have hG := grownBy_setCell w g i v
  exact ⟨u, by rw [hG.block _ (heap_lt h1) (by simpa using hne)]; exact h1, h2.keptT hb ht hG⟩
theorem TwoP.grown {g h b : Nat} {w w1 w2 : World} (a : TwoP g h w w1) (hG : w1.grownBy w2 (some b)) (hb : w.heap.size ≤ b ∨ b = h) : TwoP g h w w2 :=
  ⟨hG.os.trans a.os, hG.tape.trans a.tape, hG.output.trans a.output, Nat.le_trans a.size hG.size, fun k h1 h2 h3 => (hG.block k (Nat.lt_of_lt_of_le h1 a.size) (by simp; omega)).trans (a.keep k h1 h2 h3)⟩
/-- What the taking keeps: how many bits are left, the number. -/
structure Tst (gl gx bx L X : Nat) (W : World) : Prop where
  l : Blk W gl 3 #[.int .i64 (L : Nat)]
  x : Blk W gx 51 #[.pointer (some ⟨bx, 0, none⟩)]
  I : IntAt W bx ((X : Nat) : Int)
  n1 : bx < gx
  n2 : gx < gl
section
variable {gl gx bx L X : Nat} {W W' : World}
theorem Tst.below (s : Tst gl gx bx L X W) (hb : Below W.heap.size W W') : Tst gl gx bx L X W' := ⟨Blk.below' s.l hb, Blk.below' s.x hb, s.I.below hb (Nat.le_refl _), s.n1, s.n2⟩
end
set_option maxHeartbeats 4000000 in
theorem take_any (gl gx bx L X n : Nat) (w : World) (S : Tst gl gx bx L X w) (hn : n ≤ L) (hL : L ≤ 112) (hX : X < 2 ^ 112) (hy : X / 2 ^ (L - n) < 64) :
    Calls Tryd.prog 25 #[.int .i64 n, .pointer (some ⟨gl, 0, none⟩), .pointer (some ⟨gx, 0, none⟩)] w
      (fun e w' => e = .returned (.int .i64 (X / 2 ^ (L - n) : Nat)) ∧ Tst gl gx bx (L - n) (X % 2 ^ (L - n)) w' ∧ TwoP gl bx w w') := by
  obtain ⟨M, hM⟩ : ∃ M, M = L - n := ⟨_, rfl⟩
  rw [← hM] at hy ⊢
  obtain ⟨y, hyy⟩ : ∃ y, y = X / 2 ^ M := ⟨_, rfl⟩
  have hmod := Nat.div_add_mod X (2 ^ M)
  rw [← hyy] at hy hmod ⊢
  have hle : y * 2 ^ M ≤ X := by rw [Nat.mul_comm]; omega
  have hX3 : X < 340282366920938463463374607431768211456 := Nat.lt_of_lt_of_le hX (by decide)
  have n1 := S.n1
  have n2 := S.n2
  have hgl := Blk.lt S.l
  have c1 : w.cell? ⟨gl, 0, none⟩ = some (.int .i64 (L : Nat)) := Blk.cell S.l 0
  have f1 := Blk.frozen S.l 0
  have hwM : IntKind.i64.wrap ((L : Int) - (n : Nat)) = (M : Nat) := by rw [IntKind.wrap_i64]; omega
  have hMu : IntKind.u64.wrap ((M : Nat) : Int) = (M : Nat) := by rw [IntKind.wrap_u64]; omega
  obtain ⟨W1, hW1⟩ : ∃ W1, W1 = w.setCell ⟨gl, 0, none⟩ (.int .i64 (M : Nat)) := ⟨_, rfl⟩
  have S1 := hid (show Blk W1 gl 3 #[.int .i64 (M : Nat)] from by rw [hW1]; exact Blk.set_ S.l 0 _)
  have X1 := hid (show Blk W1 gx 51 #[.pointer (some ⟨bx, 0, none⟩)] from by rw [hW1]; exact Blk.far S.x (p := ⟨gl, 0, none⟩) (by show gx ≠ gl; omega) _)
  have I1 := hid (show IntAt W1 bx ((X : Nat) : Int) from by rw [hW1]; exact S.I.setInt S.l (by decide) (by omega) 0 _)
  have T1 := hid (show TwoP gl bx w W1 from by rw [hW1]; exact (TwoP.refl _ _ _).set1 0 _)
  have Z1 := hid (show W1.heap.size = w.heap.size by rw [hW1]; simp [World.setCell])
  have L2 := (Below.refl W1.heap.size W1).alloc (Nat.le_refl _) (.cells #[.bool false, .slice none 0 0] 54)
  have q1 : (W1.alloc (.cells #[.bool false, .slice none 0 0] 54)).cell? ⟨gl, 0, none⟩ = some (.int .i64 (M : Nat)) := Blk.cell (Blk.below' S1.out L2) 0
  have q2 : (W1.alloc (.cells #[.bool false, .slice none 0 0] 54)).cell? ⟨gx, 0, none⟩ = some (.pointer (some ⟨bx, 0, none⟩)) := Blk.cell (Blk.below' X1.out L2) 0
  have I2 := hid (I1.out.below L2 (Nat.le_refl _))
  have T2 := hid (T1.out.trans (TwoP.of_below L2))
  have KR := hid (show Calls Tryd.prog 26 #[.pointer (some ⟨W1.heap.size, 0, none⟩), .pointer (some ⟨bx, 0, none⟩), .int .u64 (M : Nat)] (W1.alloc (.cells #[.bool false, .slice none 0 0] 54)) (Gives (W1.alloc (.cells #[.bool false, .slice none 0 0] 54)) W1.heap.size ((y : Nat) : Int)) from by
    have h := Rsh_any (W1.alloc (.cells #[.bool false, .slice none 0 0] 54)) W1.heap.size bx ((X : Nat) : Int) M (IntBlk.new W1 _ _) I2.out (sm_of_lt hX3) (by omega)
    rw [show ((X : Nat) : Int) / 2 ^ M = ((y : Nat) : Int) by rw [hyy]; simp] at h
    exact h)
  have S2 := hid (Blk.below' S1.out L2)
  have X2 := hid (Blk.below' X1.out L2)
  have HW1 := hid hW1
  have HS := hid S
  have HM := hid hM
  have HYY := hid hyy
  have HMD := hid hmod
  have hM112 : M ≤ 112 := by omega
  clear L2 hW1 S hM hyy hmod
  go_enter Tryd.func25, Tryd.ntmps25
  go_wp2_with (first
    | (rw [← HW1.out]; clear HW1)
    | (go_at_call 26; (with_reducible refine KR.out.mono ?_); rintro e w3 ⟨rfl, hI, hG⟩; have Y3 := hid hI; have I3 := hid (I2.out.kept (IntBlk.new W1 _ _) hG (by have := Z1.out; omega)); have S3 := hid (Blk.grown S2.out hG (by have := Z1.out; simp; omega)); have X3 := hid (Blk.grown X2.out hG (by have := Z1.out; simp; omega)); have T3 := hid (T2.out.grown hG (.inl (by rw [Z1.out]; exact Nat.le_refl _))); have Z3 := hid (show w.heap.size < w3.heap.size from by have h1 := hG.size; rw [World.size_alloc, Z1.out] at h1; omega); clear hI hG))
  clear q1 q2 c1 f1 hwM
  have q1 : w3.cell? ⟨gl, 0, none⟩ = some (.int .i64 (M : Nat)) := Blk.cell S3.out 0
  have q2 : w3.cell? ⟨gx, 0, none⟩ = some (.pointer (some ⟨bx, 0, none⟩)) := Blk.cell X3.out 0
  obtain ⟨Z, hZ⟩ : ∃ Z, Z = y * 2 ^ M := ⟨_, rfl⟩
  rw [← hZ] at hle
  obtain ⟨by', hby⟩ : ∃ b, b = W1.heap.size := ⟨_, rfl⟩
  have HBY := hid (show by' = w.heap.size by rw [hby]; exact Z1.out)
  rw [← hby] at Y3 ⊢
  clear hby
  obtain ⟨W4, hW4⟩ : ∃ W4, W4 = (w3.alloc (.cells #[.bool false, .slice none 0 0] 54)).drew := ⟨_, rfl⟩
  have L4 : Below w3.heap.size w3 W4 := by rw [hW4]; exact ((Below.refl _ _).alloc (Nat.le_refl _) _).drew
  have K4 := hid (show IntBlk W4 w3.heap.size from by rw [hW4]; exact (IntBlk.new w3 _ _).drew)
  have Y4 := hid (Y3.out.below L4 (Nat.le_refl _))
  have I4 := hid (I3.out.below L4 (Nat.le_refl _))
  have S4 := hid (Blk.below' S3.out L4)
  have X4 := hid (Blk.below' X3.out L4)
  have T4 := hid (T3.out.trans (TwoP.of_below L4))
  have hZ3 : Z < 340282366920938463463374607431768211456 := by omega
  have KL := hid (show Calls Tryd.prog 18 #[.pointer (some ⟨w3.heap.size, 0, none⟩), .pointer (some ⟨by', 0, none⟩), .int .u64 (M : Nat)] W4 (Gives W4 w3.heap.size ((Z : Nat) : Int)) from by
    have h := Lsh_any W4 w3.heap.size by' ((y : Nat) : Int) M K4.out Y4.out (sm_of_lt (by show y < _; omega)) (by omega)
    rw [show ((y : Nat) : Int) * 2 ^ M = ((Z : Nat) : Int) by rw [hZ]; simp] at h
    exact h)
  have KS := hid (fun W (h1 : IntAt W bx ((X : Nat) : Int)) (h2 : IntAt W w3.heap.size ((Z : Nat) : Int)) => show Calls Tryd.prog 27 #[.pointer (some ⟨bx, 0, none⟩), .pointer (some ⟨bx, 0, none⟩), .pointer (some ⟨w3.heap.size, 0, none⟩)] W (Gives W bx ((X % 2 ^ M : Nat) : Int)) from by
    have h := Sub_any W bx bx w3.heap.size ((X : Nat) : Int) ((Z : Nat) : Int) h1.blk h1 h2 (sm_of_lt hX3) (sm_of_lt hZ3)
    rw [show ((X : Nat) : Int) - ((Z : Nat) : Int) = ((X % 2 ^ M : Nat) : Int) by
      have h3 := HMD.out
      rw [Nat.mul_comm, ← hZ] at h3
      omega] at h
    exact h)
  have hzl := Z3.out
  have hbyy := HBY.out
  have r1 : ¬ gl = w3.heap.size := by omega
  have r2 : ¬ gx = w3.heap.size := by omega
  have HW4 := hid hW4
  clear hZ hZ3 hle hX3 hX L4 hW4 hbyy
  go_region_held3 (fun w' => w'.cell? ⟨gl, 0, none⟩ = some (.int .i64 (M : Nat)) ∧ w'.cell? ⟨gx, 0, none⟩ = some (.pointer (some ⟨bx, 0, none⟩))) (go_keep) (first
    | (go_at_call 18; rw [show (w3.alloc (.cells #[.bool false, .slice none 0 0] 54)).drew = W4 from HW4.out.symm]; (with_reducible refine KL.out.mono ?_); rintro e' wL ⟨rfl, hI, hG⟩; have ZL := hid hI; have IL := hid (I4.out.kept K4.out hG (by omega)); have YL := hid (Y4.out.kept K4.out hG (by have := HBY.out; omega)); have SL := hid (Blk.grown S4.out hG (by simp; omega)); have XL := hid (Blk.grown X4.out hG (by simp; omega)); have TL := hid (T4.out.grown hG (.inl (Nat.le_of_lt hzl))); have m1 : World.cell? wL ⟨gl, 0, none⟩ = some (.int .i64 (M : Nat)) := Blk.cell SL.out 0; have m2 : World.cell? wL ⟨gx, 0, none⟩ = some (.pointer (some ⟨bx, 0, none⟩)) := Blk.cell XL.out 0; clear hI hG)
    | (go_at_call 27; (with_reducible refine (KS.out wL IL.out ZL.out).mono ?_); rintro e' wS ⟨rfl, hI, hG⟩; have IS := hid hI; have YS := hid (YL.out.kept IL.out.blk hG (by have := HBY.out; omega)); have SS := hid (Blk.grown SL.out hG (by simp; omega)); have XS := hid (Blk.grown XL.out hG (by simp; omega)); have TS := hid (TL.out.grown hG (.inr rfl)); have o1 : World.cell? wS ⟨gl, 0, none⟩ = some (.int .i64 (M : Nat)) := Blk.cell SS.out 0; have o2 : World.cell? wS ⟨gx, 0, none⟩ = some (.pointer (some ⟨bx, 0, none⟩)) := Blk.cell XS.out 0; clear hI hG))
  all_goals
    rename_i hHeldZ
    clear hHeldZ o1 o2 m1 m2 q1 q2
    try simp only [Exit.then]
    have KI := hid (Int64_any wS by' ((y : Nat) : Int) YS.out (by omega) (by omega))
    go_wp2_with (go_at_call 28; (with_reducible refine KI.out.mono ?_); rintro e' w' ⟨rfl, rfl⟩)
    go_ret
    exact ⟨rfl, ⟨SS.out, XS.out, IS.out, n1, n2⟩, TS.out⟩
end Go.Proofs.YtnbenmpjpogldaaDoor
