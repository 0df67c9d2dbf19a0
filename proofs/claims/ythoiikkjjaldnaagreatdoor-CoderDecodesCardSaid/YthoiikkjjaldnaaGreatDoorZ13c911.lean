/- Texts that the law rests on, laid together: UnT, UnQ, UnR, DeE, EqS, PkE, PkI, PkR, DeL. -/
import Derived.Test.YthoiikkjjaldnaaGreatDoorZ6cb475
import Derived.Test.YthoiikkjjaldnaaGreatDoorZ9e3f21
import Derived.Test.YthoiikkjjaldnaaGreatDoorZa55587
import Derived.Test.YthoiikkjjaldnaaGreatDoorZa53097
import Derived.BigRegion
import Derived.Test.YthoiikkjjaldnaaGreatDoorZ685a03
import Derived.Laws.CopyOwn
import Derived.Test.YthoiikkjjaldnaaGreatDoorBigAddO
import Derived.Deep.RegionHeld3
import Derived.Deep.DeepCutAuto
/- The walk of the reference's closure that takes bits off a long number. -/
namespace Go.Proofs.YthoiikkjjaldnaaGreatDoor
set_option linter.unusedVariables false
set_option linter.unusedSimpArgs false
set_option maxRecDepth 100000
open Go.RowKit

/-- A number of words stays where only a block that holds no words is written. -/
theorem Nm.keptT {w w' : World} {v : Value} {n : Nat} (h : Nm w v n) {g : Nat} {t : TypeId} {cs : Array Value} (hb : Blk w g t cs) (ht : t ≠ 172) (hg : w.grownBy w' (some g)) : Nm w' v n := by
  obtain ⟨ao, len, cap, ws, rfl, hr, h2, hn⟩ := h
  refine ⟨ao, len, cap, ws, rfl, hr.of_block fun a ha => hg.block _ (hr.lt a ha) ?_, h2, hn⟩
  intro he
  obtain ⟨_, cur, fz, hh, _⟩ := hr.cells a ha
  have := Option.some.inj he
  unfold Blk at hb
  rw [this, hb] at hh
  simp only [Option.some.injEq, Obj.cells.injEq] at hh
  exact ht hh.2.1
theorem IntAt.setInt {w : World} {b g : Nat} {z : Int} {t : TypeId} {cs : Array Value} (h : IntAt w b z) (hb : Blk w g t cs) (ht : t ≠ 172) (hne : b ≠ g) (i : Nat) (v : Value) : IntAt (w.setCell ⟨g, i, none⟩ v) b z := by
  obtain ⟨u, h1, h2⟩ := h
  have hG := grownBy_setCell w g i v
  exact ⟨u, by rw [hG.block _ (heap_lt h1) (by simpa using hne)]; exact h1, h2.keptT hb ht hG⟩
theorem TwoP.grown {g h b : Nat} {w w1 w2 : World} (a : TwoP g h w w1) (hG : w1.grownBy w2 (some b)) (hb : w.heap.size ≤ b ∨ b = h) : TwoP g h w w2 :=
  ⟨hG.os.trans a.os, hG.tape.trans a.tape, hG.output.trans a.output, Nat.le_trans a.size hG.size, fun k h1 h2 h3 => (hG.block k (Nat.lt_of_lt_of_le h1 a.size) (by simp; omega)).trans (a.keep k h1 h2 h3)⟩
/-- What the taking keeps: how many bits are left, the number. -/
structure Tst (gl gx bx L X : Nat) (W : World) : Prop where
  l : Blk W gl 3 #[.int .i64 (L : Nat)]
  x : Blk W gx 77 #[.pointer (some ⟨bx, 0, none⟩)]
  I : IntAt W bx ((X : Nat) : Int)
  n1 : bx < gx
  n2 : gx < gl
section
variable {gl gx bx L X : Nat} {W W' : World}
theorem Tst.below (s : Tst gl gx bx L X W) (hb : Below W.heap.size W W') : Tst gl gx bx L X W' := ⟨Blk.below' s.l hb, Blk.below' s.x hb, s.I.below hb (Nat.le_refl _), s.n1, s.n2⟩
end
set_option maxHeartbeats 4000000 in
theorem take_any (gl gx bx L X n : Nat) (w : World) (S : Tst gl gx bx L X w) (hn : n ≤ L) (hL : L ≤ 112) (hX : X < 2 ^ 112) (hy : X / 2 ^ (L - n) < 64) :
    Calls Tryz.prog 72 #[.int .i64 n, .pointer (some ⟨gl, 0, none⟩), .pointer (some ⟨gx, 0, none⟩)] w
      (fun e w' => e = .returned (.int .i64 (X / 2 ^ (L - n) : Nat)) ∧ Tst gl gx bx (L - n) (X % 2 ^ (L - n)) w' ∧ TwoP gl bx w w') := by
  obtain ⟨M, hM⟩ : ∃ M, M = L - n := ⟨_, rfl⟩
  rw [← hM] at hy ⊢
  obtain ⟨y, hyy⟩ : ∃ y, y = X / 2 ^ M := ⟨_, rfl⟩
  have hmod := Nat.div_add_mod X (2 ^ M)
  rw [← hyy] at hy hmod ⊢
  have hle : y * 2 ^ M ≤ X := by rw [Nat.mul_comm]; omega
  have hX3 : X < 340282366920938463463374607431768211456 := Nat.lt_of_lt_of_le hX (by decide)
  have n1 := S.n1
  have n2 := S.n2
  have hgl := Blk.lt S.l
  have c1 : w.cell? ⟨gl, 0, none⟩ = some (.int .i64 (L : Nat)) := Blk.cell S.l 0
  have f1 := Blk.frozen S.l 0
  have hwM : IntKind.i64.wrap ((L : Int) - (n : Nat)) = (M : Nat) := by rw [IntKind.wrap_i64]; omega
  have hMu : IntKind.u64.wrap ((M : Nat) : Int) = (M : Nat) := by rw [IntKind.wrap_u64]; omega
  obtain ⟨W1, hW1⟩ : ∃ W1, W1 = w.setCell ⟨gl, 0, none⟩ (.int .i64 (M : Nat)) := ⟨_, rfl⟩
  have S1 := hid (show Blk W1 gl 3 #[.int .i64 (M : Nat)] from by rw [hW1]; exact Blk.set_ S.l 0 _)
  have X1 := hid (show Blk W1 gx 77 #[.pointer (some ⟨bx, 0, none⟩)] from by rw [hW1]; exact Blk.far S.x (p := ⟨gl, 0, none⟩) (by show gx ≠ gl; omega) _)
  have I1 := hid (show IntAt W1 bx ((X : Nat) : Int) from by rw [hW1]; exact S.I.setInt S.l (by decide) (by omega) 0 _)
  have T1 := hid (show TwoP gl bx w W1 from by rw [hW1]; exact (TwoP.refl _ _ _).set1 0 _)
  have Z1 := hid (show W1.heap.size = w.heap.size by rw [hW1]; simp [World.setCell])
  have L2 := (Below.refl W1.heap.size W1).alloc (Nat.le_refl _) (.cells #[.bool false, .slice none 0 0] 80)
  have q1 : (W1.alloc (.cells #[.bool false, .slice none 0 0] 80)).cell? ⟨gl, 0, none⟩ = some (.int .i64 (M : Nat)) := Blk.cell (Blk.below' S1.out L2) 0
  have q2 : (W1.alloc (.cells #[.bool false, .slice none 0 0] 80)).cell? ⟨gx, 0, none⟩ = some (.pointer (some ⟨bx, 0, none⟩)) := Blk.cell (Blk.below' X1.out L2) 0
  have I2 := hid (I1.out.below L2 (Nat.le_refl _))
  have T2 := hid (T1.out.trans (TwoP.of_below L2))
  have KR := hid (show Calls Tryz.prog 73 #[.pointer (some ⟨W1.heap.size, 0, none⟩), .pointer (some ⟨bx, 0, none⟩), .int .u64 (M : Nat)] (W1.alloc (.cells #[.bool false, .slice none 0 0] 80)) (Gives (W1.alloc (.cells #[.bool false, .slice none 0 0] 80)) W1.heap.size ((y : Nat) : Int)) from by
    have h := Rsh_any (W1.alloc (.cells #[.bool false, .slice none 0 0] 80)) W1.heap.size bx ((X : Nat) : Int) M (IntBlk.new W1 _ _) I2.out (sm_of_lt hX3) (by omega)
    rw [show ((X : Nat) : Int) / 2 ^ M = ((y : Nat) : Int) by rw [hyy]; simp] at h
    exact h)
  have S2 := hid (Blk.below' S1.out L2)
  have X2 := hid (Blk.below' X1.out L2)
  have HW1 := hid hW1
  have HS := hid S
  have HM := hid hM
  have HYY := hid hyy
  have HMD := hid hmod
  have hM112 : M ≤ 112 := by omega
  clear L2 hW1 S hM hyy hmod
  go_enter Tryz.func72, Tryz.ntmps72
  go_wp2_with (first
    | (rw [← HW1.out]; clear HW1)
    | (go_at_call 73; (with_reducible refine KR.out.mono ?_); rintro e w3 ⟨rfl, hI, hG⟩; have Y3 := hid hI; have I3 := hid (I2.out.kept (IntBlk.new W1 _ _) hG (by have := Z1.out; omega)); have S3 := hid (Blk.grown S2.out hG (by have := Z1.out; simp; omega)); have X3 := hid (Blk.grown X2.out hG (by have := Z1.out; simp; omega)); have T3 := hid (T2.out.grown hG (.inl (by rw [Z1.out]; exact Nat.le_refl _))); have Z3 := hid (show w.heap.size < w3.heap.size from by have h1 := hG.size; rw [World.size_alloc, Z1.out] at h1; omega); clear hI hG))
  clear q1 q2 c1 f1 hwM
  have q1 : w3.cell? ⟨gl, 0, none⟩ = some (.int .i64 (M : Nat)) := Blk.cell S3.out 0
  have q2 : w3.cell? ⟨gx, 0, none⟩ = some (.pointer (some ⟨bx, 0, none⟩)) := Blk.cell X3.out 0
  obtain ⟨Z, hZ⟩ : ∃ Z, Z = y * 2 ^ M := ⟨_, rfl⟩
  rw [← hZ] at hle
  obtain ⟨by', hby⟩ : ∃ b, b = W1.heap.size := ⟨_, rfl⟩
  have HBY := hid (show by' = w.heap.size by rw [hby]; exact Z1.out)
  rw [← hby] at Y3 ⊢
  clear hby
  obtain ⟨W4, hW4⟩ : ∃ W4, W4 = (w3.alloc (.cells #[.bool false, .slice none 0 0] 80)).drew := ⟨_, rfl⟩
  have L4 : Below w3.heap.size w3 W4 := by rw [hW4]; exact ((Below.refl _ _).alloc (Nat.le_refl _) _).drew
  have K4 := hid (show IntBlk W4 w3.heap.size from by rw [hW4]; exact (IntBlk.new w3 _ _).drew)
  have Y4 := hid (Y3.out.below L4 (Nat.le_refl _))
  have I4 := hid (I3.out.below L4 (Nat.le_refl _))
  have S4 := hid (Blk.below' S3.out L4)
  have X4 := hid (Blk.below' X3.out L4)
  have T4 := hid (T3.out.trans (TwoP.of_below L4))
  have hZ3 : Z < 340282366920938463463374607431768211456 := by omega
  have KL := hid (show Calls Tryz.prog 30 #[.pointer (some ⟨w3.heap.size, 0, none⟩), .pointer (some ⟨by', 0, none⟩), .int .u64 (M : Nat)] W4 (Gives W4 w3.heap.size ((Z : Nat) : Int)) from by
    have h := Lsh_any W4 w3.heap.size by' ((y : Nat) : Int) M K4.out Y4.out (sm_of_lt (by show y < _; omega)) (by omega)
    rw [show ((y : Nat) : Int) * 2 ^ M = ((Z : Nat) : Int) by rw [hZ]; simp] at h
    exact h)
  have KS := hid (fun W (h1 : IntAt W bx ((X : Nat) : Int)) (h2 : IntAt W w3.heap.size ((Z : Nat) : Int)) => show Calls Tryz.prog 74 #[.pointer (some ⟨bx, 0, none⟩), .pointer (some ⟨bx, 0, none⟩), .pointer (some ⟨w3.heap.size, 0, none⟩)] W (Gives W bx ((X % 2 ^ M : Nat) : Int)) from by
    have h := Sub_any W bx bx w3.heap.size ((X : Nat) : Int) ((Z : Nat) : Int) h1.blk h1 h2 (sm_of_lt hX3) (sm_of_lt hZ3)
    rw [show ((X : Nat) : Int) - ((Z : Nat) : Int) = ((X % 2 ^ M : Nat) : Int) by
      have h3 := HMD.out
      rw [Nat.mul_comm, ← hZ] at h3
      omega] at h
    exact h)
  have hzl := Z3.out
  have hbyy := HBY.out
  have r1 : ¬ gl = w3.heap.size := by omega
  have r2 : ¬ gx = w3.heap.size := by omega
  have HW4 := hid hW4
  clear hZ hZ3 hle hX3 hX L4 hW4 hbyy
  go_region_held3 (fun w' => w'.cell? ⟨gl, 0, none⟩ = some (.int .i64 (M : Nat)) ∧ w'.cell? ⟨gx, 0, none⟩ = some (.pointer (some ⟨bx, 0, none⟩))) (go_keep) (first
    | (go_at_call 30; rw [show (w3.alloc (.cells #[.bool false, .slice none 0 0] 80)).drew = W4 from HW4.out.symm]; (with_reducible refine KL.out.mono ?_); rintro e' wL ⟨rfl, hI, hG⟩; have ZL := hid hI; have IL := hid (I4.out.kept K4.out hG (by omega)); have YL := hid (Y4.out.kept K4.out hG (by have := HBY.out; omega)); have SL := hid (Blk.grown S4.out hG (by simp; omega)); have XL := hid (Blk.grown X4.out hG (by simp; omega)); have TL := hid (T4.out.grown hG (.inl (Nat.le_of_lt hzl))); have m1 : World.cell? wL ⟨gl, 0, none⟩ = some (.int .i64 (M : Nat)) := Blk.cell SL.out 0; have m2 : World.cell? wL ⟨gx, 0, none⟩ = some (.pointer (some ⟨bx, 0, none⟩)) := Blk.cell XL.out 0; clear hI hG)
    | (go_at_call 74; (with_reducible refine (KS.out wL IL.out ZL.out).mono ?_); rintro e' wS ⟨rfl, hI, hG⟩; have IS := hid hI; have YS := hid (YL.out.kept IL.out.blk hG (by have := HBY.out; omega)); have SS := hid (Blk.grown SL.out hG (by simp; omega)); have XS := hid (Blk.grown XL.out hG (by simp; omega)); have TS := hid (TL.out.grown hG (.inr rfl)); have o1 : World.cell? wS ⟨gl, 0, none⟩ = some (.int .i64 (M : Nat)) := Blk.cell SS.out 0; have o2 : World.cell? wS ⟨gx, 0, none⟩ = some (.pointer (some ⟨bx, 0, none⟩)) := Blk.cell XS.out 0; clear hI hG))
  all_goals
    rename_i hHeldZ
    clear hHeldZ o1 o2 m1 m2 q1 q2
    try simp only [Exit.then]
    have KI := hid (Int64_any wS by' ((y : Nat) : Int) YS.out (by omega) (by omega))
    go_wp2_with (go_at_call 75; (with_reducible refine KI.out.mono ?_); rintro e' w' ⟨rfl, rfl⟩)
    go_ret
    exact ⟨rfl, ⟨SS.out, XS.out, IS.out, n1, n2⟩, TS.out⟩
end Go.Proofs.YthoiikkjjaldnaaGreatDoor

/- Eight stores into a block of numbers. -/
namespace Go.Proofs.YthoiikkjjaldnaaGreatDoor
set_option linter.unusedVariables false
set_option linter.unusedSimpArgs false
set_option maxRecDepth 100000
open Go.RowKit

theorem ib8_set {w : World} {g : Nat} {t : TypeId} {xs : List Int} (h : IB w g t xs) (k0 k1 k2 k3 k4 k5 k6 k7 : Nat) (a0 a1 a2 a3 a4 a5 a6 a7 : Int) : IB ((((((((w.setCell ⟨g, k0, none⟩ (.int .i64 a0)).setCell ⟨g, k1, none⟩ (.int .i64 a1)).setCell ⟨g, k2, none⟩ (.int .i64 a2)).setCell ⟨g, k3, none⟩ (.int .i64 a3)).setCell ⟨g, k4, none⟩ (.int .i64 a4)).setCell ⟨g, k5, none⟩ (.int .i64 a5)).setCell ⟨g, k6, none⟩ (.int .i64 a6)).setCell ⟨g, k7, none⟩ (.int .i64 a7)).drew g t ((((((((xs.set k0 a0).set k1 a1).set k2 a2).set k3 a3).set k4 a4).set k5 a5).set k6 a6).set k7 a7) := Blk.drew (IB.set_ (IB.set_ (IB.set_ (IB.set_ (IB.set_ (IB.set_ (IB.set_ (IB.set_ h k0 a0) k1 a1) k2 a2) k3 a3) k4 a4) k5 a5) k6 a6) k7 a7)
theorem blk8_far {w : World} {g k : Nat} {t : TypeId} {cs : Array Value} (h : Blk w k t cs) (hne : k ≠ g) (k0 k1 k2 k3 k4 k5 k6 k7 : Nat) (a0 a1 a2 a3 a4 a5 a6 a7 : Int) : Blk ((((((((w.setCell ⟨g, k0, none⟩ (.int .i64 a0)).setCell ⟨g, k1, none⟩ (.int .i64 a1)).setCell ⟨g, k2, none⟩ (.int .i64 a2)).setCell ⟨g, k3, none⟩ (.int .i64 a3)).setCell ⟨g, k4, none⟩ (.int .i64 a4)).setCell ⟨g, k5, none⟩ (.int .i64 a5)).setCell ⟨g, k6, none⟩ (.int .i64 a6)).setCell ⟨g, k7, none⟩ (.int .i64 a7)).drew k t cs := Blk.drew (Blk.far (Blk.far (Blk.far (Blk.far (Blk.far (Blk.far (Blk.far (Blk.far h (p := ⟨g, k0, none⟩) hne (.int .i64 a0)) (p := ⟨g, k1, none⟩) hne (.int .i64 a1)) (p := ⟨g, k2, none⟩) hne (.int .i64 a2)) (p := ⟨g, k3, none⟩) hne (.int .i64 a3)) (p := ⟨g, k4, none⟩) hne (.int .i64 a4)) (p := ⟨g, k5, none⟩) hne (.int .i64 a5)) (p := ⟨g, k6, none⟩) hne (.int .i64 a6)) (p := ⟨g, k7, none⟩) hne (.int .i64 a7))
theorem cell8_far (w : World) {g k j : Nat} (hne : k ≠ g) (k0 k1 k2 k3 k4 k5 k6 k7 : Nat) (a0 a1 a2 a3 a4 a5 a6 a7 : Int) : ((((((((w.setCell ⟨g, k0, none⟩ (.int .i64 a0)).setCell ⟨g, k1, none⟩ (.int .i64 a1)).setCell ⟨g, k2, none⟩ (.int .i64 a2)).setCell ⟨g, k3, none⟩ (.int .i64 a3)).setCell ⟨g, k4, none⟩ (.int .i64 a4)).setCell ⟨g, k5, none⟩ (.int .i64 a5)).setCell ⟨g, k6, none⟩ (.int .i64 a6)).setCell ⟨g, k7, none⟩ (.int .i64 a7)).drew.cell? ⟨k, j, none⟩ = w.cell? ⟨k, j, none⟩ := by
  have e : ∀ (W : World) (p : Addr), W.drew.cell? p = W.cell? p := fun _ _ => rfl
  have f : ∀ (W : World) (m : Nat) (a : Int), (W.setCell ⟨g, m, none⟩ (.int .i64 a)).cell? ⟨k, j, none⟩ = W.cell? ⟨k, j, none⟩ := fun W m a => cell_far W (.int .i64 a) (p := ⟨g, m, none⟩) (q := ⟨k, j, none⟩) hne
  rw [e, f, f, f, f, f, f, f, f]
theorem below8 {B : Nat} {a w : World} {g : Nat} (h : Below B a w) (hg : B ≤ g) (k0 k1 k2 k3 k4 k5 k6 k7 : Nat) (a0 a1 a2 a3 a4 a5 a6 a7 : Int) : Below B a ((((((((w.setCell ⟨g, k0, none⟩ (.int .i64 a0)).setCell ⟨g, k1, none⟩ (.int .i64 a1)).setCell ⟨g, k2, none⟩ (.int .i64 a2)).setCell ⟨g, k3, none⟩ (.int .i64 a3)).setCell ⟨g, k4, none⟩ (.int .i64 a4)).setCell ⟨g, k5, none⟩ (.int .i64 a5)).setCell ⟨g, k6, none⟩ (.int .i64 a6)).setCell ⟨g, k7, none⟩ (.int .i64 a7)).drew := Below.drew (Below.setCell (Below.setCell (Below.setCell (Below.setCell (Below.setCell (Below.setCell (Below.setCell (Below.setCell h (p := ⟨g, k0, none⟩) hg (.int .i64 a0)) (p := ⟨g, k1, none⟩) hg (.int .i64 a1)) (p := ⟨g, k2, none⟩) hg (.int .i64 a2)) (p := ⟨g, k3, none⟩) hg (.int .i64 a3)) (p := ⟨g, k4, none⟩) hg (.int .i64 a4)) (p := ⟨g, k5, none⟩) hg (.int .i64 a5)) (p := ⟨g, k6, none⟩) hg (.int .i64 a6)) (p := ⟨g, k7, none⟩) hg (.int .i64 a7))
end Go.Proofs.YthoiikkjjaldnaaGreatDoor

/- The walk of the reference's Unpack. -/
namespace Go.Proofs.YthoiikkjjaldnaaGreatDoor
set_option linter.unusedVariables false
set_option linter.unusedSimpArgs false
set_option maxRecDepth 100000
open Go.RowKit

theorem mod_div_pow (V L n : Nat) (h : n ≤ L) : V % 2 ^ L / 2 ^ (L - n) = V >>> (L - n) % 2 ^ n := by
  apply Nat.eq_of_testBit_eq
  intro q
  rw [Nat.testBit_div_two_pow, Nat.testBit_mod_two_pow, Nat.testBit_mod_two_pow, Nat.testBit_shiftRight, Nat.add_comm (L - n) q]
  by_cases hq : q < n
  · have h1 : q + (L - n) < L := by omega
    simp [hq, h1]
  · have h1 : ¬ q + (L - n) < L := by omega
    simp [hq, h1]
theorem mod_mod_pow (V L n : Nat) : V % 2 ^ L % 2 ^ (L - n) = V % 2 ^ (L - n) := Nat.mod_mod_of_dvd _ (Nat.pow_dvd_pow 2 (by omega))
theorem gt_of_mod (V a n : Nat) (h : a + n ≤ 112) : V % 2 ^ (112 - a) / 2 ^ (112 - a - n) = gt V a n := by
  unfold gt
  exact mod_div_pow V (112 - a) n (by omega)
theorem uL_snoc (V : Nat) {i : Nat} (hi : i < 25) : (uL V 25).take i ++ [((uF V i : Nat) : Int)] = (uL V 25).take (i + 1) := by
  have h := take_snocP (l := uL V 25) (k := i) (by rw [uL_len]; exact hi)
  rw [← h]
  congr 2
  unfold uL
  rw [List.getD_eq_getElem?_getD, List.getElem?_map, List.getElem?_range hi]
  simp [hi]
theorem nb_take {xs : List Int} (k : Nat) (hk : k ≤ 14) : nb (xs.take 14) k = nb xs k := by
  induction k with
  | zero => rfl
  | succ k ih =>
    simp only [nb]
    rw [ih (by omega)]
    congr 2
    rw [List.getD_eq_getElem?_getD, List.getElem?_take, if_pos (by omega), ← List.getD_eq_getElem?_getD]
theorem Own.two {w w' : World} {base c g h : Nat} {A : Option Addr} {xs : List Int} (o : Own w base A c xs) (t : TwoP g h w w') (h1 : g < base) (h2 : h < base) : Own w' base A c xs := by
  refine ⟨o.1, ?_⟩
  rcases o.2 with hn | ⟨b, cap, cur, hv, hb, hg, rest⟩
  · exact .inl hn
  · exact .inr ⟨b, cap, cur, hv, hb, (t.keep b (heap_lt hg) (by omega) (by omega)).trans hg, rest⟩
theorem Tst.app {gl gx bx L X base c : Nat} {w w' : World} {A : Option Addr} {xs : List Int} (s : Tst gl gx bx L X w) (o : Own w base A c xs) (hb : gl < base) (hG : w.grownBy w' (A.map (·.block))) : Tst gl gx bx L X w' := by
  have h1 := s.n1
  have h2 := s.n2
  cases A with
  | none => exact s.below ⟨hG.os, hG.tape, hG.output, hG.size, fun k hk => hG.block k hk (by simp)⟩
  | some a =>
    rcases o.2 with ⟨hv, _⟩ | ⟨b, cap, cur, hv, hbb, hg, _⟩
    · cases hv
    · injection hv with hA _ _
      injection hA with hA
      subst hA
      have hG : w.grownBy w' (some b) := hG
      refine ⟨Blk.grown s.l hG (by simp; omega), Blk.grown s.x hG (by simp; omega), ?_, h1, h2⟩
      obtain ⟨v, k1, k2⟩ := s.I
      exact ⟨v, by rw [hG.block _ (heap_lt k1) (by simp; omega)]; exact k1, k2.keptT (show Blk w b 3 cur from hg) (by decide) hG⟩
theorem TwoP.app {g h base c : Nat} {w0 w w' : World} {A : Option Addr} {xs : List Int} (t : TwoP g h w0 w) (o : Own w base A c xs) (hb : w0.heap.size ≤ base) (hG : w.grownBy w' (A.map (·.block))) : TwoP g h w0 w' := by
  cases A with
  | none => exact t.trans (TwoP.of_below ⟨hG.os, hG.tape, hG.output, hG.size, fun k hk => hG.block k hk (by simp)⟩)
  | some a => exact t.grown hG (.inl (Nat.le_trans hb (o.lt a rfl).1))
set_option maxHeartbeats 4000000 in
theorem refUnpack_any (A : Option Addr) (c n : Nat) (xs : List Int) (w : World) (T : TabS w 0 widthL) (hr : Rb w w.heap.size A xs) (hn : xs.length = n) (hc : n ≤ c) (hx : Byts xs) :
    Calls Tryz.prog 26 #[.slice A n c] w (UnOut xs w) := by
  have hmf : ∀ (fn : Fn) (first cap : Array Value) (w : World), (Instr.makeFunc fn first cap).run Tryz.prog w = .ok (.func fn first cap) w := fun _ _ _ _ => rfl
  have hR := results_row2 (fn := Tryz.f26) (p := 2) (q := 3) (ty := 38) rfl
  have B0 := (Below.refl w.heap.size w).alloc (Nat.le_refl _) (.cells (agi Z25) 38)
  have R0 := IB.new w 38 Z25
  obtain ⟨V, hV⟩ : ∃ V, V = w.alloc (.cells (agi Z25) 38) := ⟨_, rfl⟩
  have SV := hid (show V.heap.size = w.heap.size + 1 by rw [hV]; simp)
  rw [← hV] at B0 R0
  have RX := hid R0
  have BX := hid B0
  have HR := hid (hr.below B0)
  have HX := hid hx
  have HT0 := hid T
  have HV := hid hV
  have HVL := hid (show w.alloc (.cells #[.int .i64 0, .int .i64 0, .int .i64 0, .int .i64 0, .int .i64 0, .int .i64 0, .int .i64 0, .int .i64 0, .int .i64 0, .int .i64 0, .int .i64 0, .int .i64 0, .int .i64 0, .int .i64 0, .int .i64 0, .int .i64 0, .int .i64 0, .int .i64 0, .int .i64 0, .int .i64 0, .int .i64 0, .int .i64 0, .int .i64 0, .int .i64 0, .int .i64 0] 38) = V from hV.symm)
  clear B0 R0 hr hx T hV HV
  by_cases h15 : n ≠ 15
  · have HE := hid (show unE xs = 1 from by unfold unE; rw [if_pos (by rw [hn]; exact h15)])
    have d0 : ((n : Int) != 15) = true := by simp; omega
    have d1 : ¬ (n : Int) = 15 := by omega
    go_enter Tryz.func26, Tryz.ntmps26
    go_wp2_with (first
      | (rw [HVL.out]; clear HVL)
      | (refine wpList_storeI rfl 38 (.tmp 2) (.tmp 20) rfl _ 38 Z25 Z25 25 rfl rfl RX.out size25d rfl rfl ?_))
    have HZ := hid (unL_bad (xs := xs) (by rw [HE.out]; decide))
    refine bodyPost_ret (v := _) (hR _ _ _ 38 Z25 _ 25 rfl (IB.setRow RX.out Z25) Tryz.underlying38 rfl size25d rfl) rfl ?_
    exact ⟨by rw [HE.out, HZ.out]; rfl, below_setRow BX.out (Nat.le_refl _) _⟩
  · obtain rfl : n = 15 := by omega
    have HN := hid hn
    obtain ⟨ad, rfl, had, c14⟩ := HR.out.at_ (k := 14) (by rw [hn]; omega)
    have c14 : V.cell? ⟨ad.block, ad.off + 14, none⟩ = some (.int .u8 (xs.getD 14 0)) := by rw [Addr.add_succ'] at c14; exact c14
    have RB := hid (show ∀ W, Below V.heap.size V W → Rb W W.heap.size (some ad) (xs.take 14) from fun W hb => ((HR.out.below (hb.mono (by have := SV.out; omega))).more (by have := hb.size; have := SV.out; omega)).take (by rw [hn]; omega))
    have KS := hid (refCheck_any (some ad) c 14 (xs.take 14) V.drew (RB.out V.drew ((Below.refl _ _).drew)) (by rw [List.length_take, hn]; rfl) (by omega) (HX.out.take 14))
    have hci : (14 : Int) ≤ (c : Int) := by omega
    have i14 : (14 : Int) < 15 := by omega
    have hEE : unE xs = if chk (xs.take 14) ≠ xs.getD 14 0 then 5 else if unV xs % 32 ≠ 0 then 3 else if pkTo (uL (unV xs) 25) 25 = false then 2 else if pkPar (uL (unV xs) 25) ≠ (unV xs / 32 % 2 : Nat) then 3 else 0 := by
      unfold unE
      rw [if_neg (by rw [hn]; simp)]
    clear hn h15
    go_enter Tryz.func26, Tryz.ntmps26
    go_wp2_with (rw [HVL.out]; clear HVL)
    by_cases hck : chk (xs.take 14) = xs.getD 14 0
    · rw [if_neg (by rw [hck]; simp)] at hEE
      have HE := hid hEE
      have d0 : (chk (xs.take 14) != xs.getD 14 0) = false := by rw [hck]; simp
      have d1 : decide (chk (xs.take 14) = xs.getD 14 0) = true := by simpa using hck
      clear hEE
      generalize chk (xs.take 14) = ck at *
      generalize xs.getD 14 0 = x14 at *
      clear hck
      go_region_held3 (fun w' => w'.cell? ⟨ad.block, ad.off + 14, none⟩ = some (.int .u8 x14)) (go_keep) (first
        | (go_at_call 35; (with_reducible refine KS.out.mono ?_); rintro e' w' ⟨rfl, rfl⟩))
      rename_i hHeldZ
      clear hHeldZ
      try simp only [Exit.then]
      have hZb := nb_take (xs := xs) 14 (Nat.le_refl _)
      have hVlt := nb_lt HX.out 14
      obtain ⟨W, hW⟩ : ∃ W, W = V.drew := ⟨_, rfl⟩
      have SW := hid (show W.heap.size = w.heap.size + 1 from by rw [hW]; exact SV.out)
      have RW := hid (show IB W w.heap.size 38 Z25 from by rw [hW]; exact RX.out)
      have BW := hid (show Below w.heap.size w W from by rw [hW]; exact BX.out.drew)
      have LV := hid (show Below V.heap.size V W from by rw [hW]; exact (Below.refl _ _).drew)
      rw [← hW]
      clear hW c14 KS
      have LA := (Below.refl W.heap.size W).alloc (Nat.le_refl _) (.cells #[.bool false, .slice none 0 0] 80)
      have KB := hid (show Calls Tryz.prog 71 #[.pointer (some ⟨W.heap.size, 0, none⟩), .slice (some ad) 14 c] (W.alloc (.cells #[.bool false, .slice none 0 0] 80)) (Gives (W.alloc (.cells #[.bool false, .slice none 0 0] 80)) W.heap.size ((unV xs : Nat) : Int)) from by
        have h := SetBytes_any (W.alloc (.cells #[.bool false, .slice none 0 0] 80)) W.heap.size (some ad) c (xs.take 14) (IntBlk.new W _ _) (RB.out _ (LV.out.trans (LA.mono LV.out.size))) (by rw [List.length_take, HN.out]; rfl) (HX.out.take 14)
        rw [hZb] at h
        exact h)
      have HVL := hid (show unV xs < 2 ^ 112 from hVlt)
      have LA := hid LA
      clear hZb hVlt
      go_wp2_with (go_at_call 71; (with_reducible refine KB.out.mono ?_); rintro e w3 ⟨rfl, hI, hG⟩; have I3 := hid hI; have L3 := hid (below_of_grownBy LA.out hG (Nat.le_refl _)); have Z3 := hid (show W.heap.size < w3.heap.size from hI.lt); clear hI hG)
      obtain ⟨W4, hW4⟩ : ∃ W4, W4 = w3.alloc (.cells #[.pointer (some ⟨W.heap.size, 0, none⟩)] 77) := ⟨_, rfl⟩
      have L4 : Below w3.heap.size w3 W4 := by rw [hW4]; exact (Below.refl _ _).alloc (Nat.le_refl _) _
      have X4 := hid (show Blk W4 w3.heap.size 77 #[.pointer (some ⟨W.heap.size, 0, none⟩)] from by rw [hW4]; exact Blk.new w3 _ _)
      have I4 := hid (I3.out.below L4 (Nat.le_refl _))
      have B4 := hid (BW.out.trans ((L3.out.trans (L4.mono L3.out.size)).mono BW.out.size))
      have R4 := hid (Blk.below' RW.out (L3.out.trans (L4.mono L3.out.size)))
      have T4 := hid (HT0.out.below B4.out)
      rw [← hW4]
      have KN := hid (show Calls Tryz.prog 29 #[.agg #[.int .i64 0, .int .i64 0, .int .i64 0, .int .i64 0, .int .i64 0, .int .i64 0, .int .i64 0, .int .i64 0, .int .i64 0, .int .i64 0, .int .i64 0, .int .i64 0, .int .i64 0, .int .i64 0, .int .i64 0, .int .i64 0, .int .i64 0, .int .i64 0, .int .i64 0, .int .i64 0, .int .i64 0, .int .i64 0, .int .i64 0, .int .i64 0, .int .i64 0]] W4 (NewN W4 Z25) from numbers_any Z25 W4 T4.out z25_len)
      clear L4 hW4 I3 L3 LA
      go_wp2_with (go_at_call 29; (with_reducible refine KN.out.mono ?_); rintro e w5 ⟨A1, c1, A2, c2, A3, c3, rfl, h1, h2, h3, hB⟩; have O2 := hid h2; have X5 := hid (Blk.below' X4.out hB); have I5 := hid (I4.out.below hB (Nat.le_refl _)); have R5 := hid (Blk.below' R4.out hB); have B5 := hid (B4.out.trans (hB.mono B4.out.size)); have Z5 := hid (show w3.heap.size < w5.heap.size from Nat.lt_of_lt_of_le (Blk.lt X4.out) hB.size); have Y4 := hid (Blk.lt X4.out); clear h1 h2 h3 hB)
      obtain ⟨g2, cap2, cur2, rfl, hg2, hg3, hrest⟩ := O2.out.form (by rw [pkB_len]; omega)
      clear hrest
      obtain ⟨W6, hW6⟩ : ∃ W6, W6 = w5.alloc (.cells #[.int .i64 112] 3) := ⟨_, rfl⟩
      have L6 : Below w5.heap.size w5 W6 := by rw [hW6]; exact (Below.refl _ _).alloc (Nat.le_refl _) _
      have Z6 := hid (show W6.heap.size = w5.heap.size + 1 by rw [hW6]; simp)
      have S6 := hid (show Tst w5.heap.size w3.heap.size W.heap.size 112 (unV xs) W6 from ⟨by rw [hW6]; exact Blk.new w5 _ _, Blk.below' X5.out L6, I5.out.below L6 (Nat.le_refl _), Z3.out, Z5.out⟩)
      have R6 := hid (Blk.below' R5.out L6)
      have B6 := hid (B5.out.trans (L6.mono B5.out.size))
      have O6 := hid (O2.out.below L6)
      have HG2 := hid (show w3.heap.size < g2 ∧ g2 < w5.heap.size from ⟨by have := Y4.out; omega, hg3⟩)
      have HW6 := hid hW6.symm
      clear L6 hW6 X5 I5 R5 B5 O2 X4 I4 R4 T4 hg2 hg3
      go_wp2_with (rw [HW6.out]; clear HW6)
      have S6 := hid (show Tst w5.heap.size w3.heap.size W.heap.size (112 - pkA 0) (unV xs % 2 ^ (112 - pkA 0)) W6 from by
        have e : unV xs % 2 ^ (112 - pkA 0) = unV xs := Nat.mod_eq_of_lt HVL.out
        rw [e]; exact S6.out)
      go_loopw [10, 42] (fun lv iv wr => ∃ (i : Nat) (A : Option Addr) (c : Nat), i ≤ 25 ∧ iv = .int .i64 i ∧ lv = .slice A i c ∧ Hid (Own wr W6.heap.size A c ((uL (unV xs) 25).take i)) ∧ Hid (Tst w5.heap.size w3.heap.size W.heap.size (112 - pkA i) (unV xs % 2 ^ (112 - pkA i)) wr) ∧ Hid (TwoP w5.heap.size W.heap.size W6 wr)) (fun _ iv _ => 25 - (intOf iv).toNat)
      case atStart => exact ⟨0, none, 0, by omega, rfl, rfl, hid Own.nil, S6, hid (TwoP.refl _ _ _)⟩
      case round =>
        clear S6
        obtain ⟨i, Al, cl, hi, rfl, rfl, HO, HS, HT⟩ := hrel
        by_cases hlt : i < 25
        · have k1 := HT.out.cell (O6.out.cell i (by rw [pkB_len]; exact hlt)) (show g2 ≠ w5.heap.size by have := HG2.out; omega) (show g2 ≠ W.heap.size by have := HG2.out; have := Z3.out; omega)
          obtain ⟨hn1, hn2, _⟩ := pkN_le hlt
          have ha := pkA_le (n := i + 1) (by omega)
          have SY := hid (show pkA (i + 1) = pkA i + pkN i from rfl)
          have SU := hid (uL_snoc (unV xs) hlt)
          have SF := hid (show uF (unV xs) i = gt (unV xs) (pkA i) (pkN i) from rfl)
          rw [SY.out] at ha
          rw [hn2] at k1
          have gl := gt_lt (unV xs) (pkA i) (pkN i)
          have gl6 : gt (unV xs) (pkA i) (pkN i) < 64 := Nat.lt_of_lt_of_le gl (show 2 ^ pkN i ≤ 2 ^ 6 from Nat.pow_le_pow_right (by decide) hn1)
          have hdv := gt_of_mod (unV xs) (pkA i) (pkN i) (by omega)
          have hmm := mod_mod_pow (unV xs) (112 - pkA i) (pkN i)
          have hXl : unV xs % 2 ^ (112 - pkA i) < 2 ^ 112 := Nat.lt_of_le_of_lt (Nat.mod_le _ _) HVL.out
          have KT := take_any w5.heap.size w3.heap.size W.heap.size (112 - pkA i) (unV xs % 2 ^ (112 - pkA i)) (pkN i) wr HS.out (by omega) (by omega) hXl (by rw [hdv]; exact gl6)
          rw [hdv, hmm, show 112 - pkA i - pkN i = 112 - pkA (i + 1) by rw [SY.out]; omega] at KT
          have KT := hid KT
          have HLn := hid (show ((uL (unV xs) 25).take i).length = i by rw [List.length_take, uL_len]; omega)
          rw [SF.out] at SU
          generalize gt (unV xs) (pkA i) (pkN i) = y at *
          generalize pkN i = n at *
          have i0 : (0 : Int) ≤ i := by omega
          have i25 : (i : Int) < 25 := by omega
          clear hn2 hdv hmm hXl gl gl6
          go_wp2_with (first
            | (go_at_call 72; (with_reducible refine KT.out.mono ?_); rintro e' w7 ⟨rfl, hS, hT⟩; have S7 := hid hS; have T7 := hid (HT.out.trans hT); have O7 := hid (HO.out.two hT (by have := Z6.out; omega) (by have := Z6.out; have := Z5.out; have := Z3.out; omega)); clear hS hT)
            | (at_builtin; refine wpList_pushN rfl (.tmp 46) (.tmp 50) rfl W6.heap.size Al cl i ((uL (unV xs) 25).take i) rfl HLn.out (O7.out.alloc _) ⟨w7.heap.size, 0, none⟩ (y : Nat) rfl (cell_new w7 _ _) (by omega) (by have := T7.out.size; rw [World.size_alloc]; omega) ?_; intro A8 c8 w8 hO hG hA; rw [SU.out] at hO; have S8 := hid ((S7.out.below ((Below.refl _ _).alloc (Nat.le_refl _) _)).app (O7.out.alloc _) (by have := Z6.out; omega) hG); have T8 := hid ((T7.out.trans (TwoP.of_below ((Below.refl _ _).alloc (Nat.le_refl _) _))).app (O7.out.alloc _) (Nat.le_refl _) hG); have O8 := hid hO; clear hO hG hA))
          go_roundw
          case rel => exact ⟨i + 1, A8, c8, by omega, by go_num, rfl, O8, S8, T8⟩
          case measure => simp [intOf] <;> omega
        · obtain rfl : i = 25 := by omega
          try rw [show ((25 : Nat) : Int) = 25 from rfl]
          rw [pkA_end] at HS
          have hX6 : unV xs % 2 ^ (112 - 106) < 2 ^ 112 := Nat.lt_of_le_of_lt (Nat.mod_le _ _) HVL.out
          have hdv := gt_of_mod (unV xs) 106 1 (by omega)
          have hmm := mod_mod_pow (unV xs) (112 - 106) 1
          have gl1 := gt_lt (unV xs) 106 1
          have KT := hid (show Calls Tryz.prog 72 #[.int .i64 1, .pointer (some ⟨w5.heap.size, 0, none⟩), .pointer (some ⟨w3.heap.size, 0, none⟩)] wr (fun e w' => e = .returned (.int .i64 (unV xs / 32 % 2 : Nat)) ∧ Tst w5.heap.size w3.heap.size W.heap.size 5 (unV xs % 32) w' ∧ TwoP w5.heap.size W.heap.size wr w') from by
            have h := take_any w5.heap.size w3.heap.size W.heap.size (112 - 106) (unV xs % 2 ^ (112 - 106)) 1 wr HS.out (by omega) (by omega) hX6 (by rw [hdv]; omega)
            rw [hdv, hmm, gt_par] at h
            exact h)
          have hT25 : (uL (unV xs) 25).take 25 = uL (unV xs) 25 := List.take_of_length_le (by rw [uL_len]; exact Nat.le_refl _)
          rw [hT25] at HO
          clear hX6 hdv hmm gl1 hT25
          generalize unV xs / 32 % 2 = pq at *
          go_wp2_with (go_at_call 72; (with_reducible refine KT.out.mono ?_); rintro e' w7 ⟨rfl, hS, hT⟩; have S7 := hid hS; have T7 := hid (HT.out.trans hT); have O7 := hid (HO.out.two hT (by have := Z6.out; omega) (by have := Z6.out; have := Z5.out; have := Z3.out; omega)); have c7 : w7.cell? ⟨w3.heap.size, 0, none⟩ = some (.pointer (some ⟨W.heap.size, 0, none⟩)) := Blk.cell hS.x 0; have KSG := hid (Sign_any w7 W.heap.size ((unV xs % 32 : Nat) : Int) hS.I); clear hS hT)
          have R7 := hid (T7.out.blk R6.out (by have := Z5.out; have := Z3.out; have := SW.out; omega) (by have := SW.out; omega))
          have B7 := hid (B6.out.trans (T7.out.below (B := w.heap.size) B6.out.size (by have := Z5.out; have := Z3.out; have := SW.out; omega) (by have := SW.out; omega)))
          clear HO HS HT KT O6
          by_cases h0 : unV xs % 32 = 0
          · have KSG := hid (show Calls Tryz.prog 76 #[.pointer (some ⟨W.heap.size, 0, none⟩)] w7 (fun e w' => e = .returned (.int .i64 0) ∧ w7 = w') from by
              have h := KSG.out
              rw [h0] at h
              exact h)
            have HE1 := HE.out
            rw [if_neg (by rw [h0]; simp)] at HE1
            have HEE := hid HE1
            clear HE1 h0
            obtain ⟨t0, t1, t2, t3, t4, t5, t6, t7, t8, t9, t10, t11, t12, t13, t14, t15, t16, t17, t18, t19, t20, t21, t22, t23, t24, hL⟩ := list25 (uL_len (unV xs) 25)
            have HLL := hid hL
            rw [hL] at O7
            clear hL
            obtain ⟨g3, cap3, cur3, rfl, hg3b, hg3l, hr3⟩ := O7.out.form (by simp)
            clear hr3
            have k0 : w7.cell? ⟨g3, 0, none⟩ = some (.int .i64 t0) := O7.out.cell 0 (by simp)
            have hcl := O7.out.cap.1
            simp only [List.length_cons, List.length_nil] at hcl
            obtain ⟨W8, hW8⟩ : ∃ W8, W8 = (w7.alloc (.cells (agi Z25) 38)).setRow w7.heap.size (agi [t0, 0, 0, 0, 0, 0, 0, 0, 0, 0, 0, 0, 0, 0, 0, 0, 0, 0, 0, 0, 0, 0, 0, 0, 0]) := ⟨_, rfl⟩
            have L8 : Below w7.heap.size w7 W8 := by rw [hW8]; exact below_stored w7 (.cells (agi Z25) 38) _
            have P8 := hid (show IB W8 w7.heap.size 38 [t0, 0, 0, 0, 0, 0, 0, 0, 0, 0, 0, 0, 0, 0, 0, 0, 0, 0, 0, 0, 0, 0, 0, 0, 0] from by rw [hW8]; exact IB.stored w7 38 Z25 [t0, 0, 0, 0, 0, 0, 0, 0, 0, 0, 0, 0, 0, 0, 0, 0, 0, 0, 0, 0, 0, 0, 0, 0, 0])
            have R8 := hid (Blk.below' R7.out L8)
            have B8 := hid (B7.out.trans (L8.mono B7.out.size))
            have O8 := hid (O7.out.below L8)
            have G8 := hid (show g3 < w7.heap.size from hg3l)
            have HW8 := hid hW8.symm
            clear L8 hW8
            go_wp2_with (first
              | (go_at_call 76; (with_reducible refine KSG.out.mono ?_); rintro e' w' ⟨rfl, rfl⟩)
              | (refine wpList_storeI rfl 38 (.tmp 14) (.tmp 62) rfl _ 38 Z25 [t0, 0, 0, 0, 0, 0, 0, 0, 0, 0, 0, 0, 0, 0, 0, 0, 0, 0, 0, 0, 0, 0, 0, 0, 0] 25 rfl rfl (IB.new w7 38 Z25) size25d rfl rfl ?_; rw [show (w7.alloc (.cells #[.int .i64 0, .int .i64 0, .int .i64 0, .int .i64 0, .int .i64 0, .int .i64 0, .int .i64 0, .int .i64 0, .int .i64 0, .int .i64 0, .int .i64 0, .int .i64 0, .int .i64 0, .int .i64 0, .int .i64 0, .int .i64 0, .int .i64 0, .int .i64 0, .int .i64 0, .int .i64 0, .int .i64 0, .int .i64 0, .int .i64 0, .int .i64 0, .int .i64 0] 38)).setRow w7.heap.size (agi [t0, 0, 0, 0, 0, 0, 0, 0, 0, 0, 0, 0, 0, 0, 0, 0, 0, 0, 0, 0, 0, 0, 0, 0, 0]) = W8 from HW8.out]; clear HW8))
            clear k0
            obtain ⟨gp, hgp⟩ : ∃ gp, gp = w7.heap.size := ⟨_, rfl⟩
            have GP := hid (show W6.heap.size ≤ w7.heap.size from T7.out.size)
            rw [← hgp] at P8 G8 GP ⊢
            clear hgp
            have hc1 : ¬ cl = 1 := by omega
            have hc2 : (9 : Int) ≤ (cl : Int) := by omega
            have q8 := hid (show ∀ j, j < 8 → W8.drew.cell? ((⟨g3, 1, none⟩ : Addr).add j) = some (.int .i64 ([t1, t2, t3, t4, t5, t6, t7, t8].getD j 0)) from fun j hj => by
              rw [Addr.add_lit]
              have e := O8.out.cell (1 + j) (by simp; omega)
              have : j = 0 ∨ j = 1 ∨ j = 2 ∨ j = 3 ∨ j = 4 ∨ j = 5 ∨ j = 6 ∨ j = 7 := by omega
              rcases this with rfl | rfl | rfl | rfl | rfl | rfl | rfl | rfl <;> exact e)
            go_region_held3 (fun _ => True) (trivial) (first
              | (refine step_copyI rfl (.tmp 64) (.tmp 66) 27 27 rfl Tryz.underlying27 gp 1 8 8 ⟨g3, 1, none⟩ 8 (cl - 1) rfl rfl 38 [t0, 0, 0, 0, 0, 0, 0, 0, 0, 0, 0, 0, 0, 0, 0, 0, 0, 0, 0, 0, 0, 0, 0, 0, 0] [t1, t2, t3, t4, t5, t6, t7, t8] [t0, t1, t2, t3, t4, t5, t6, t7, t8, 0, 0, 0, 0, 0, 0, 0, 0, 0, 0, 0, 0, 0, 0, 0, 0] (Blk.drew P8.out) rfl (fun j hj => q8.out j hj) (by simp) rfl ?_))
            rename_i hHeldZ
            clear hHeldZ q8
            try simp only [Exit.then]
            rw [show goInt ((([t1, t2, t3, t4, t5, t6, t7, t8] : List Int).length : Nat) : Int) = Value.int .i64 8 from rfl]
            have nG : g3 ≠ gp := by have := G8.out; omega
            have hgpl : w.heap.size ≤ gp := by have := GP.out; have := SW.out; have := Z3.out; have := Z5.out; have := Z6.out; omega
            have nR : w.heap.size ≠ gp := by have := GP.out; have := SW.out; have := Z3.out; have := Z5.out; have := Z6.out; omega
            have C9 := hid (show ∀ j, j < 25 → (W8.drew.setRow gp (agi [t0, t1, t2, t3, t4, t5, t6, t7, t8, 0, 0, 0, 0, 0, 0, 0, 0, 0, 0, 0, 0, 0, 0, 0, 0])).cell? ⟨g3, j, none⟩ = some (.int .i64 ([t0, t1, t2, t3, t4, t5, t6, t7, t8, t9, t10, t11, t12, t13, t14, t15, t16, t17, t18, t19, t20, t21, t22, t23, t24].getD j 0)) from fun j hj => by
              have e := O8.out.cell j (by simpa using hj)
              unfold World.cell? at *
              rw [setRow_other _ _ _ _ nG]
              exact e)
            have P9 := hid (IB.setRow (Blk.drew P8.out) [t0, t1, t2, t3, t4, t5, t6, t7, t8, 0, 0, 0, 0, 0, 0, 0, 0, 0, 0, 0, 0, 0, 0, 0, 0])
            have R9 := hid (Blk.rowFar (c2 := agi [t0, t1, t2, t3, t4, t5, t6, t7, t8, 0, 0, 0, 0, 0, 0, 0, 0, 0, 0, 0, 0, 0, 0, 0, 0]) (Blk.drew R8.out) nR)
            have B9 := hid (below_setRow B8.out.drew (show w.heap.size ≤ gp by have := GP.out; have := SW.out; have := Z3.out; have := Z5.out; have := Z6.out; omega) (agi [t0, t1, t2, t3, t4, t5, t6, t7, t8, 0, 0, 0, 0, 0, 0, 0, 0, 0, 0, 0, 0, 0, 0, 0, 0]))
            obtain ⟨W9, hW9⟩ : ∃ W9, W9 = W8.drew.setRow gp (agi [t0, t1, t2, t3, t4, t5, t6, t7, t8, 0, 0, 0, 0, 0, 0, 0, 0, 0, 0, 0, 0, 0, 0, 0, 0]) := ⟨_, rfl⟩
            rw [← hW9] at C9 P9 R9 B9 ⊢
            clear hW9 P8 R8 B8 O8
            obtain ⟨pl, hpl⟩ : ∃ pl : Nat → List Int, pl = fun s => if s = 0 then [t0, t1, t2, t3, t4, t5, t6, t7, t8, 0, 0, 0, 0, 0, 0, 0, 0, 0, 0, 0, 0, 0, 0, 0, 0] else if s = 1 then [t0, t1, t2, t3, t4, t5, t6, t7, t8, t9, t10, t11, t12, t13, t14, t15, t16, 0, 0, 0, 0, 0, 0, 0, 0] else [t0, t1, t2, t3, t4, t5, t6, t7, t8, t9, t10, t11, t12, t13, t14, t15, t16, t17, t18, t19, t20, t21, t22, t23, t24] := ⟨_, rfl⟩
            have HPL := hid hpl
            have P9 := hid (show IB W9 gp 38 (pl 0) from by rw [hpl]; exact P9.out)
            clear hpl
            go_wp2
            go_loopw [15] (fun iv wr => ∃ s : Nat, s ≤ 2 ∧ iv = .int .i64 s ∧ Hid (IB wr gp 38 (pl s)) ∧ Hid (IB wr w.heap.size 38 Z25) ∧ Hid (∀ j, j < 25 → wr.cell? ⟨g3, j, none⟩ = some (.int .i64 ([t0, t1, t2, t3, t4, t5, t6, t7, t8, t9, t10, t11, t12, t13, t14, t15, t16, t17, t18, t19, t20, t21, t22, t23, t24].getD j 0))) ∧ Hid (Below w.heap.size w wr)) (fun iv _ => 2 - (intOf iv).toNat)
            case atStart => exact ⟨0, by omega, rfl, P9, R9, C9, B9⟩
            case round =>
              clear P9 R9 C9 B9
              obtain ⟨s, hs, rfl, HP, HRR, HC, HBB⟩ := hrel
              by_cases hlt : s < 2
              · obtain rfl | rfl : s = 0 ∨ s = 1 := by omega
                · try rw [show ((0 : Nat) : Int) = 0 from rfl]
                  have hP := HP.out
                  rw [HPL.out] at hP
                  have hP : IB wr gp 38 [t0, t1, t2, t3, t4, t5, t6, t7, t8, 0, 0, 0, 0, 0, 0, 0, 0, 0, 0, 0, 0, 0, 0, 0, 0] := hP
                  have k9 : wr.cell? ⟨g3, 9, none⟩ = some (.int .i64 t9) := HC.out 9 (by omega); have k10 : wr.cell? ⟨g3, 10, none⟩ = some (.int .i64 t10) := HC.out 10 (by omega); have k11 : wr.cell? ⟨g3, 11, none⟩ = some (.int .i64 t11) := HC.out 11 (by omega); have k12 : wr.cell? ⟨g3, 12, none⟩ = some (.int .i64 t12) := HC.out 12 (by omega); have k13 : wr.cell? ⟨g3, 13, none⟩ = some (.int .i64 t13) := HC.out 13 (by omega); have k14 : wr.cell? ⟨g3, 14, none⟩ = some (.int .i64 t14) := HC.out 14 (by omega); have k15 : wr.cell? ⟨g3, 15, none⟩ = some (.int .i64 t15) := HC.out 15 (by omega); have k16 : wr.cell? ⟨g3, 16, none⟩ = some (.int .i64 t16) := HC.out 16 (by omega)
                  have z9 : wr.cell? ⟨gp, 9, none⟩ = some (.int .i64 0) := IB.cell hP 9 (by simp); have f9 : wr.frozen? ⟨gp, 9, none⟩ = false := Blk.frozen hP 9; have z10 : wr.cell? ⟨gp, 10, none⟩ = some (.int .i64 0) := IB.cell hP 10 (by simp); have f10 : wr.frozen? ⟨gp, 10, none⟩ = false := Blk.frozen hP 10; have z11 : wr.cell? ⟨gp, 11, none⟩ = some (.int .i64 0) := IB.cell hP 11 (by simp); have f11 : wr.frozen? ⟨gp, 11, none⟩ = false := Blk.frozen hP 11; have z12 : wr.cell? ⟨gp, 12, none⟩ = some (.int .i64 0) := IB.cell hP 12 (by simp); have f12 : wr.frozen? ⟨gp, 12, none⟩ = false := Blk.frozen hP 12; have z13 : wr.cell? ⟨gp, 13, none⟩ = some (.int .i64 0) := IB.cell hP 13 (by simp); have f13 : wr.frozen? ⟨gp, 13, none⟩ = false := Blk.frozen hP 13; have z14 : wr.cell? ⟨gp, 14, none⟩ = some (.int .i64 0) := IB.cell hP 14 (by simp); have f14 : wr.frozen? ⟨gp, 14, none⟩ = false := Blk.frozen hP 14; have z15 : wr.cell? ⟨gp, 15, none⟩ = some (.int .i64 0) := IB.cell hP 15 (by simp); have f15 : wr.frozen? ⟨gp, 15, none⟩ = false := Blk.frozen hP 15; have z16 : wr.cell? ⟨gp, 16, none⟩ = some (.int .i64 0) := IB.cell hP 16 (by simp); have f16 : wr.frozen? ⟨gp, 16, none⟩ = false := Blk.frozen hP 16
                  have hc9 : ¬ cl = 9 := by omega
                  have nG2 : ¬ gp = g3 := fun h => nG h.symm
                  have PN := ib8_set hP 9 10 11 12 13 14 15 16 t9 t10 t11 t12 t13 t14 t15 t16
                  rw [show (((((((([t0, t1, t2, t3, t4, t5, t6, t7, t8, 0, 0, 0, 0, 0, 0, 0, 0, 0, 0, 0, 0, 0, 0, 0, 0].set 9 t9).set 10 t10).set 11 t11).set 12 t12).set 13 t13).set 14 t14).set 15 t15).set 16 t16) = [t0, t1, t2, t3, t4, t5, t6, t7, t8, t9, t10, t11, t12, t13, t14, t15, t16, 0, 0, 0, 0, 0, 0, 0, 0] from rfl] at PN
                  have PN := hid PN
                  have RN := hid (blk8_far HRR.out nR 9 10 11 12 13 14 15 16 t9 t10 t11 t12 t13 t14 t15 t16)
                  have CN := hid (fun j (hj : j < 25) => (cell8_far wr (j := j) nG 9 10 11 12 13 14 15 16 t9 t10 t11 t12 t13 t14 t15 t16).trans (HC.out j hj))
                  have BN := hid (below8 HBB.out hgpl 9 10 11 12 13 14 15 16 t9 t10 t11 t12 t13 t14 t15 t16)
                  have PN := hid (show IB ((((((((wr.setCell ⟨gp, 9, none⟩ (.int .i64 t9)).setCell ⟨gp, 10, none⟩ (.int .i64 t10)).setCell ⟨gp, 11, none⟩ (.int .i64 t11)).setCell ⟨gp, 12, none⟩ (.int .i64 t12)).setCell ⟨gp, 13, none⟩ (.int .i64 t13)).setCell ⟨gp, 14, none⟩ (.int .i64 t14)).setCell ⟨gp, 15, none⟩ (.int .i64 t15)).setCell ⟨gp, 16, none⟩ (.int .i64 t16)).drew gp 38 (pl 1) from by rw [HPL.out]; exact PN.out)
                  clear hP HE KSG RB HX HN HVL O7 S7 T7 R7 B7 HLL HC HBB HRR HP
                  go_wp2
                  go_region_held3 (fun w' => w'.cell? ⟨g3, 9, none⟩ = some (.int .i64 t9) ∧ w'.cell? ⟨g3, 10, none⟩ = some (.int .i64 t10) ∧ w'.cell? ⟨g3, 11, none⟩ = some (.int .i64 t11) ∧ w'.cell? ⟨g3, 12, none⟩ = some (.int .i64 t12) ∧ w'.cell? ⟨g3, 13, none⟩ = some (.int .i64 t13) ∧ w'.cell? ⟨g3, 14, none⟩ = some (.int .i64 t14) ∧ w'.cell? ⟨g3, 15, none⟩ = some (.int .i64 t15) ∧ w'.cell? ⟨g3, 16, none⟩ = some (.int .i64 t16)) (go_keep) (first
                    | fail)
                  rename_i hHeldZ
                  clear hHeldZ k9 z9 f9 k10 z10 f10 k11 z11 f11 k12 z12 f12 k13 z13 f13 k14 z14 f14 k15 z15 f15 k16 z16 f16
                  try simp only [Exit.then]
                  go_wp2
                  go_roundw
                  case rel => exact ⟨1, by omega, rfl, PN, RN, CN, BN⟩
                  case measure => simp [intOf] <;> omega
                · try rw [show ((1 : Nat) : Int) = 1 from rfl]
                  have hP := HP.out
                  rw [HPL.out] at hP
                  have hP : IB wr gp 38 [t0, t1, t2, t3, t4, t5, t6, t7, t8, t9, t10, t11, t12, t13, t14, t15, t16, 0, 0, 0, 0, 0, 0, 0, 0] := hP
                  have k17 : wr.cell? ⟨g3, 17, none⟩ = some (.int .i64 t17) := HC.out 17 (by omega); have k18 : wr.cell? ⟨g3, 18, none⟩ = some (.int .i64 t18) := HC.out 18 (by omega); have k19 : wr.cell? ⟨g3, 19, none⟩ = some (.int .i64 t19) := HC.out 19 (by omega); have k20 : wr.cell? ⟨g3, 20, none⟩ = some (.int .i64 t20) := HC.out 20 (by omega); have k21 : wr.cell? ⟨g3, 21, none⟩ = some (.int .i64 t21) := HC.out 21 (by omega); have k22 : wr.cell? ⟨g3, 22, none⟩ = some (.int .i64 t22) := HC.out 22 (by omega); have k23 : wr.cell? ⟨g3, 23, none⟩ = some (.int .i64 t23) := HC.out 23 (by omega); have k24 : wr.cell? ⟨g3, 24, none⟩ = some (.int .i64 t24) := HC.out 24 (by omega)
                  have z17 : wr.cell? ⟨gp, 17, none⟩ = some (.int .i64 0) := IB.cell hP 17 (by simp); have f17 : wr.frozen? ⟨gp, 17, none⟩ = false := Blk.frozen hP 17; have z18 : wr.cell? ⟨gp, 18, none⟩ = some (.int .i64 0) := IB.cell hP 18 (by simp); have f18 : wr.frozen? ⟨gp, 18, none⟩ = false := Blk.frozen hP 18; have z19 : wr.cell? ⟨gp, 19, none⟩ = some (.int .i64 0) := IB.cell hP 19 (by simp); have f19 : wr.frozen? ⟨gp, 19, none⟩ = false := Blk.frozen hP 19; have z20 : wr.cell? ⟨gp, 20, none⟩ = some (.int .i64 0) := IB.cell hP 20 (by simp); have f20 : wr.frozen? ⟨gp, 20, none⟩ = false := Blk.frozen hP 20; have z21 : wr.cell? ⟨gp, 21, none⟩ = some (.int .i64 0) := IB.cell hP 21 (by simp); have f21 : wr.frozen? ⟨gp, 21, none⟩ = false := Blk.frozen hP 21; have z22 : wr.cell? ⟨gp, 22, none⟩ = some (.int .i64 0) := IB.cell hP 22 (by simp); have f22 : wr.frozen? ⟨gp, 22, none⟩ = false := Blk.frozen hP 22; have z23 : wr.cell? ⟨gp, 23, none⟩ = some (.int .i64 0) := IB.cell hP 23 (by simp); have f23 : wr.frozen? ⟨gp, 23, none⟩ = false := Blk.frozen hP 23; have z24 : wr.cell? ⟨gp, 24, none⟩ = some (.int .i64 0) := IB.cell hP 24 (by simp); have f24 : wr.frozen? ⟨gp, 24, none⟩ = false := Blk.frozen hP 24
                  have hc9 : ¬ cl = 17 := by omega
                  have nG2 : ¬ gp = g3 := fun h => nG h.symm
                  have PN := ib8_set hP 17 18 19 20 21 22 23 24 t17 t18 t19 t20 t21 t22 t23 t24
                  rw [show (((((((([t0, t1, t2, t3, t4, t5, t6, t7, t8, t9, t10, t11, t12, t13, t14, t15, t16, 0, 0, 0, 0, 0, 0, 0, 0].set 17 t17).set 18 t18).set 19 t19).set 20 t20).set 21 t21).set 22 t22).set 23 t23).set 24 t24) = [t0, t1, t2, t3, t4, t5, t6, t7, t8, t9, t10, t11, t12, t13, t14, t15, t16, t17, t18, t19, t20, t21, t22, t23, t24] from rfl] at PN
                  have PN := hid PN
                  have RN := hid (blk8_far HRR.out nR 17 18 19 20 21 22 23 24 t17 t18 t19 t20 t21 t22 t23 t24)
                  have CN := hid (fun j (hj : j < 25) => (cell8_far wr (j := j) nG 17 18 19 20 21 22 23 24 t17 t18 t19 t20 t21 t22 t23 t24).trans (HC.out j hj))
                  have BN := hid (below8 HBB.out hgpl 17 18 19 20 21 22 23 24 t17 t18 t19 t20 t21 t22 t23 t24)
                  have PN := hid (show IB ((((((((wr.setCell ⟨gp, 17, none⟩ (.int .i64 t17)).setCell ⟨gp, 18, none⟩ (.int .i64 t18)).setCell ⟨gp, 19, none⟩ (.int .i64 t19)).setCell ⟨gp, 20, none⟩ (.int .i64 t20)).setCell ⟨gp, 21, none⟩ (.int .i64 t21)).setCell ⟨gp, 22, none⟩ (.int .i64 t22)).setCell ⟨gp, 23, none⟩ (.int .i64 t23)).setCell ⟨gp, 24, none⟩ (.int .i64 t24)).drew gp 38 (pl 2) from by rw [HPL.out]; exact PN.out)
                  clear hP HE KSG RB HX HN HVL O7 S7 T7 R7 B7 HLL HC HBB HRR HP
                  go_wp2
                  go_region_held3 (fun w' => w'.cell? ⟨g3, 17, none⟩ = some (.int .i64 t17) ∧ w'.cell? ⟨g3, 18, none⟩ = some (.int .i64 t18) ∧ w'.cell? ⟨g3, 19, none⟩ = some (.int .i64 t19) ∧ w'.cell? ⟨g3, 20, none⟩ = some (.int .i64 t20) ∧ w'.cell? ⟨g3, 21, none⟩ = some (.int .i64 t21) ∧ w'.cell? ⟨g3, 22, none⟩ = some (.int .i64 t22) ∧ w'.cell? ⟨g3, 23, none⟩ = some (.int .i64 t23) ∧ w'.cell? ⟨g3, 24, none⟩ = some (.int .i64 t24)) (go_keep) (first
                    | fail)
                  rename_i hHeldZ
                  clear hHeldZ k17 z17 f17 k18 z18 f18 k19 z19 f19 k20 z20 f20 k21 z21 f21 k22 z22 f22 k23 z23 f23 k24 z24 f24
                  try simp only [Exit.then]
                  go_wp2
                  go_roundw
                  case rel => exact ⟨2, by omega, rfl, PN, RN, CN, BN⟩
                  case measure => simp [intOf] <;> omega
              · obtain rfl : s = 2 := by omega
                have PF := hid (show IB wr gp 38 (uL (unV xs) 25) from by rw [HLL.out]; have h := HP.out; rw [HPL.out] at h; exact h)
                have TF := HT0.out.below HBB.out
                have KG := refGoodP_any (uL (unV xs) 25) wr TF (uL_len _ _)
                have KPP := hid (fun W => refParity_any (uL (unV xs) 25) W (uL_len _ _) (uL_64 _ _))
                have HE1 := HEE.out
                clear HP HC HPL HLL KSG RB O7 S7 T7 R7 B7 TF
                by_cases hg : pkTo (uL (unV xs) 25) 25 = true
                · rw [hg] at KG
                  rw [if_neg (by rw [hg]; simp)] at HE1
                  have KG := hid KG
                  by_cases hp : pkPar (uL (unV xs) 25) = (pq : Nat)
                  · have HEA := hid (show unE xs = 0 from by rw [HE1, if_neg (by rw [hp]; simp)])
                    have HZA := hid (show unL xs = uL (unV xs) 25 from by unfold unL; rw [if_pos HEA.out])
                    rw [hp] at KPP
                    clear HE1 HEE HE hg hp
                    go_wp2_with (first
                      | (refine wpList_loadI rfl 38 (.tmp 14) rfl _ 38 (uL (unV xs) 25) 25 _ rfl PF.out Tryz.underlying38 rfl size25d (uL_len _ _) ?_)
                      | (go_at_call 28; (with_reducible refine KG.out.mono ?_); rintro e' w8 ⟨rfl, hB⟩; have P8 := hid (Blk.below' PF.out hB); have R8 := hid (Blk.below' HRR.out hB); have B8 := hid (HBB.out.trans (hB.mono HBB.out.size)); clear hB)
                      | (refine wpList_loadI rfl 38 (.tmp 14) rfl _ 38 (uL (unV xs) 25) 25 _ rfl P8.out Tryz.underlying38 rfl size25d (uL_len _ _) ?_)
                      | (go_at_call 33; (with_reducible refine (KPP.out w8).mono ?_); rintro e' w9 ⟨rfl, hB⟩; have P9 := hid (Blk.below' P8.out hB); have R9 := hid (Blk.below' R8.out hB); have B9 := hid (B8.out.trans (hB.mono B8.out.size)); clear hB)
                      | (refine wpList_loadI rfl 38 (.tmp 14) rfl _ 38 (uL (unV xs) 25) 25 _ rfl P9.out Tryz.underlying38 rfl size25d (uL_len _ _) ?_)
                      | (refine wpList_storeI rfl 38 (.tmp 2) (.tmp 115) rfl _ 38 Z25 (uL (unV xs) 25) 25 rfl rfl R9.out size25d rfl (uL_len _ _) ?_))
                    refine bodyPost_ret (v := _) (hR _ _ _ 38 (uL (unV xs) 25) _ 25 rfl (IB.setRow R9.out (uL (unV xs) 25)) Tryz.underlying38 rfl size25d (uL_len _ _)) rfl ?_
                    exact ⟨by rw [HEA.out, HZA.out]; rfl, below_setRow B9.out (Nat.le_refl _) _⟩
                  · have HEA := hid (show unE xs = 3 from by rw [HE1, if_pos hp])
                    have HZA := hid (unL_bad (xs := xs) (by rw [HEA.out]; decide))
                    have hne : (((pq : Nat) : Int) != pkPar (uL (unV xs) 25)) = true := by rw [bne_iff_ne]; exact fun h => hp h.symm
                    have hne2 : ¬ ((pq : Nat) : Int) = pkPar (uL (unV xs) 25) := fun h => hp h.symm
                    clear HE1 HEE HE
                    generalize pkPar (uL (unV xs) 25) = pr at *
                    clear hg hp
                    go_wp2_with (first
                      | (refine wpList_loadI rfl 38 (.tmp 14) rfl _ 38 (uL (unV xs) 25) 25 _ rfl PF.out Tryz.underlying38 rfl size25d (uL_len _ _) ?_)
                      | (go_at_call 28; (with_reducible refine KG.out.mono ?_); rintro e' w8 ⟨rfl, hB⟩; have P8 := hid (Blk.below' PF.out hB); have R8 := hid (Blk.below' HRR.out hB); have B8 := hid (HBB.out.trans (hB.mono HBB.out.size)); clear hB)
                      | (refine wpList_loadI rfl 38 (.tmp 14) rfl _ 38 (uL (unV xs) 25) 25 _ rfl P8.out Tryz.underlying38 rfl size25d (uL_len _ _) ?_)
                      | (go_at_call 33; (with_reducible refine (KPP.out w8).mono ?_); rintro e' w9 ⟨rfl, hB⟩; have P9 := hid (Blk.below' P8.out hB); have R9 := hid (Blk.below' R8.out hB); have B9 := hid (B8.out.trans (hB.mono B8.out.size)); clear hB)
                      | (refine wpList_storeI rfl 38 (.tmp 2) (.tmp 114) rfl _ 38 Z25 Z25 25 rfl rfl R9.out size25d rfl rfl ?_))
                    refine bodyPost_ret (v := _) (hR _ _ _ 38 Z25 _ 25 rfl (IB.setRow R9.out Z25) Tryz.underlying38 rfl size25d rfl) rfl ?_
                    exact ⟨by rw [HEA.out, HZA.out]; rfl, below_setRow B9.out (Nat.le_refl _) _⟩
                · have hgf : pkTo (uL (unV xs) 25) 25 = false := by simpa using hg
                  rw [hgf] at KG
                  rw [if_pos hgf] at HE1
                  have KG := hid KG
                  have HEA := hid HE1
                  have HZA := hid (unL_bad (xs := xs) (by rw [HEA.out]; decide))
                  clear HE1 HEE HE hg hgf
                  go_wp2_with (first
                    | (refine wpList_loadI rfl 38 (.tmp 14) rfl _ 38 (uL (unV xs) 25) 25 _ rfl PF.out Tryz.underlying38 rfl size25d (uL_len _ _) ?_)
                    | (go_at_call 28; (with_reducible refine KG.out.mono ?_); rintro e' w8 ⟨rfl, hB⟩; have P8 := hid (Blk.below' PF.out hB); have R8 := hid (Blk.below' HRR.out hB); have B8 := hid (HBB.out.trans (hB.mono HBB.out.size)); clear hB)
                    | (refine wpList_storeI rfl 38 (.tmp 2) (.tmp 109) rfl _ 38 Z25 Z25 25 rfl rfl R8.out size25d rfl rfl ?_))
                  refine bodyPost_ret (v := _) (hR _ _ _ 38 Z25 _ 25 rfl (IB.setRow R8.out Z25) Tryz.underlying38 rfl size25d rfl) rfl ?_
                  exact ⟨by rw [HEA.out, HZA.out]; rfl, below_setRow B8.out (Nat.le_refl _) _⟩
          · have hs1 : ((unV xs % 32 : Nat) : Int).sign = 1 := Int.sign_eq_one_of_pos (by omega)
            rw [hs1] at KSG
            have HE2 := hid (show unE xs = 3 from by rw [HE.out, if_pos h0])
            have HZ2 := hid (unL_bad (xs := xs) (by rw [HE2.out]; decide))
            clear h0 hs1
            go_wp2_with (first
              | (go_at_call 76; (with_reducible refine KSG.out.mono ?_); rintro e' w' ⟨rfl, rfl⟩)
              | (refine wpList_storeI rfl 38 (.tmp 2) (.tmp 58) rfl _ 38 Z25 Z25 25 rfl rfl R7.out size25d rfl rfl ?_))
            refine bodyPost_ret (v := _) (hR _ _ _ 38 Z25 _ 25 rfl (IB.setRow R7.out Z25) Tryz.underlying38 rfl size25d rfl) rfl ?_
            exact ⟨by rw [HE2.out, HZ2.out]; rfl, below_setRow B7.out (Nat.le_refl _) _⟩
    · rw [if_pos hck] at hEE
      have HE := hid hEE
      have d0 : (chk (xs.take 14) != xs.getD 14 0) = true := by rw [bne_iff_ne]; exact hck
      clear hEE
      generalize chk (xs.take 14) = ck at *
      generalize xs.getD 14 0 = x14 at *
      go_region_held3 (fun w' => w'.cell? ⟨ad.block, ad.off + 14, none⟩ = some (.int .u8 x14)) (go_keep) (first
        | (go_at_call 35; (with_reducible refine KS.out.mono ?_); rintro e' w' ⟨rfl, rfl⟩))
      rename_i hHeldZ
      clear hHeldZ
      try simp only [Exit.then]
      have RY := hid (show IB V.drew w.heap.size 38 Z25 from RX.out)
      have BY := hid BX.out.drew
      have HZ := hid (unL_bad (xs := xs) (by rw [HE.out]; decide))
      go_wp2_with (refine wpList_storeI rfl 38 (.tmp 2) (.tmp 28) rfl _ 38 Z25 Z25 25 rfl rfl RY.out size25d rfl rfl ?_)
      refine bodyPost_ret (v := _) (hR _ _ _ 38 Z25 _ 25 rfl (IB.setRow RY.out Z25) Tryz.underlying38 rfl size25d rfl) rfl ?_
      exact ⟨by rw [HE.out, HZ.out]; rfl, below_setRow BY.out (Nat.le_refl _) _⟩
end Go.Proofs.YthoiikkjjaldnaaGreatDoor

/- The reference's Decode. -/
namespace Go.Proofs.YthoiikkjjaldnaaGreatDoor
set_option linter.unusedVariables false
set_option linter.unusedSimpArgs false
set_option maxRecDepth 100000
open Go.RowKit

set_option maxHeartbeats 4000000 in
theorem refDecode_any (m : Mm) (k : m.ok) (hw64 : W64 m.nums) (A : Option Addr) (c n : Nat) (xs : List Int) (w : World) (T1 : TabS w 5 rootsL) (T2 : TabS w 1 gainsL) (T3 : TabS w 0 widthL)
    (hr : Rb w w.heap.size A xs) (hn : xs.length = n) (hc : n ≤ c) (hx : Byts xs) : Calls Tryz.prog 7 #[.agg m.ag, .slice A n c] w (NewM w (deM m xs) (deY m xs) (deE m xs)) := by
  have hR := results_mem3 (fn := Tryz.f7) (p := 4) (q := 5) (r := 6) rfl
  have S0 := hid (Ms.start w m)
  have K := hid k
  have KG := hid (fun W => refGood_any m k hw64 W)
  have KU := hid (fun W (h : Below w.heap.size w W) => refUnpack_any A c n xs W (T3.below h) ((hr.below h).more h.size) hn hc hx)
  unfold UnOut at KU
  have FE := hid (show deE m xs = if goodM m = true then unE xs else 2 from rfl)
  have FM := hid (fun (h : deE m xs ≠ 0) => show deM m xs = zeroM from by unfold deM; rw [if_neg h])
  have FY := hid (fun (h : deE m xs ≠ 0) => show deY m xs = [] from by unfold deY; rw [if_neg h])
  have FM0 := hid (fun (h : deE m xs = 0) => show deM m xs = frM m (unL xs) from by unfold deM; rw [if_pos h])
  have FY0 := hid (fun (h : deE m xs = 0) => show deY m xs = frO m (unL xs) from by unfold deY; rw [if_pos h])
  have UL := hid (unL_len xs)
  have UE := hid (fun (h : unE xs = 0) => unE_to h)
  have TT := hid (⟨T1, T2, T3⟩ : TabS w 5 rootsL ∧ TabS w 1 gainsL ∧ TabS w 0 widthL)
  have OKF := hid (fun (h : unE xs = 0) => frM_ok k (unE_to h) (unL_len xs))
  have KFR := hid (fun W (h : Below w.heap.size w W) (g : goodM m = true) (he : unE xs = 0) => refPlay_any m k g (unL xs) W (T1.below h) (T2.below h) (T3.below h) (unE_to he) (unL_len xs))
  clear k hw64 hr hn hc hx T1 T2 T3
  go_enter Tryz.func7, Tryz.ntmps7
  go_wp2_with (refine wpList_loadM rfl (.tmp 2) rfl _ m rfl S0.out.A K.out ?_)
  with_reducible refine (KG.out _).mono ?_
  rintro e w1 ⟨rfl, hB⟩
  have S1 := hid (S0.out.below hB)
  clear hB S0 KG
  cases hg : goodM m with
  | false =>
    have HE := hid (show deE m xs = 2 from by rw [FE.out, hg]; rfl)
    clear hg
    have hRow := hid (MB.setRow S1.out.R zeroM)
    have FIN := hid (below_setRow S1.out.bel (g := w.heap.size + 1) (by omega) zeroM.ag)
    go_wp2_with (refine wpList_storeM rfl (.tmp 4) (.tmp 13) rfl _ zeroM zeroM rfl (congrArg Value.agg zeroM_ag) S1.out.R zeroM_ok zeroM_ok ?_)
    refine bodyPost_ret (v := _) (hR _ _ _ zeroM rfl hRow.out zeroM_ok) rfl ?_
    rw [FM.out (by rw [HE.out]; decide), FY.out (by rw [HE.out]; decide), HE.out]
    exact NewM.bad FIN.out
  | true =>
    have HG := hid hg
    have FE := hid (show deE m xs = unE xs from by rw [FE.out, hg]; rfl)
    clear hg
    go_wp2_with fail
    with_reducible refine (KU.out w1 S1.out.bel).mono ?_
    rintro e w2 ⟨rfl, hB⟩
    have S2 := hid (S1.out.below hB)
    clear hB S1 KU
    by_cases he : unE xs = 0
    · have HE := hid (show deE m xs = 0 from by rw [FE.out, he])
      have KF2 := hid (fun W h => KFR.out W h HG.out he)
      have OK2 := hid (OKF.out he)
      have FM2 := hid (FM0.out HE.out)
      have FY2 := hid (FY0.out HE.out)
      have LO := hid (frO_len m (unL xs))
      rw [he]
      clear he UE FM0 FY0 FM FY KFR OKF FE
      generalize unL xs = ps at *
      generalize frM m ps = mf at *
      generalize frO m ps = yf at *
      go_wp2_with (first
        | (refine wpList_storeI rfl 38 (.tmp 7) (.tmp 17) rfl _ 38 Z25 ps 25 rfl rfl (IB.new w2 38 Z25) size25d rfl UL.out ?_
           have BB := below_stored w2 (.cells (agi Z25) 38) (agi ps)
           obtain ⟨V3, hV⟩ : ∃ V3, V3 = (w2.alloc (.cells (agi Z25) 38)).setRow w2.heap.size (agi ps) := ⟨_, rfl⟩
           have S3 := hid (show Ms w V3 m from by rw [hV]; exact S2.out.below BB)
           have P3 := hid (show IB V3 w2.heap.size 38 ps from by rw [hV]; exact storedP w2 ps)
           rw [z25_eq] at hV
           rw [← hV]
           clear hV BB)
        | (refine wpList_loadM rfl (.tmp 2) rfl _ m rfl S3.out.A K.out ?_)
        | (refine wpList_loadI rfl 38 (.tmp 7) rfl _ 38 ps 25 _ rfl P3.out Tryz.underlying38 rfl size25d UL.out ?_))
      with_reducible refine (KF2.out V3 S3.out.bel).mono ?_
      rintro e w4 ⟨A4, c4, rfl, hO, hB⟩
      have S4 := hid (S3.out.below hB)
      have O4 := hid hO
      have LT := hid S3.out.lt
      clear hO hB
      have S5 := hid (S4.out.setA (mm := mf))
      have O5 := hid (O4.out.setRow (g := w.heap.size) (by have := LT.out; omega) mf.ag)
      obtain ⟨V5, hV5⟩ : ∃ V5, V5 = w4.setRow w.heap.size mf.ag := ⟨_, rfl⟩
      rw [← hV5] at S5 O5
      have HV5 := hid hV5
      clear hV5
      rw [LO.out]
      go_wp2_with (first
        | (refine wpList_storeM rfl (.tmp 2) (.tmp 27) rfl _ m mf rfl rfl S4.out.A K.out OK2.out ?_; rw [← HV5.out]; clear HV5)
        | (refine wpList_loadM rfl (.tmp 2) rfl _ mf rfl S5.out.A OK2.out ?_)
        | (refine wpList_storeM rfl (.tmp 4) (.tmp 29) rfl _ zeroM mf rfl rfl S5.out.R zeroM_ok OK2.out ?_))
      refine bodyPost_ret (v := _) (hR _ _ _ mf rfl (MB.setRow S5.out.R mf) OK2.out) rfl ?_
      rw [FM2.out, FY2.out, HE.out]
      exact ⟨A4, c4, by rw [LO.out]; rfl, (O5.out.setRow (g := w.heap.size + 1) (by have := LT.out; omega) mf.ag).more (base' := w.heap.size) (by have := LT.out; omega), below_setRow S5.out.bel (g := w.heap.size + 1) (by omega) mf.ag⟩
    · have HE := hid (show deE m xs ≠ 0 from by rw [FE.out]; exact he)
      have HE2 := hid FE.out
      have he2 : (unE xs != 0) = true := by simpa using he
      have FM2 := hid (FM.out HE.out)
      have FY2 := hid (FY.out HE.out)
      clear FE FM FY FM0 FY0 UE OKF KFR HE HG
      generalize unE xs = ee at *
      generalize unL xs = ps at *
      go_wp2_with (first
        | (refine wpList_storeI rfl 38 (.tmp 7) (.tmp 17) rfl _ 38 Z25 ps 25 rfl rfl (IB.new w2 38 Z25) size25d rfl UL.out ?_
           have BB := below_stored w2 (.cells (agi Z25) 38) (agi ps)
           obtain ⟨V3, hV⟩ : ∃ V3, V3 = (w2.alloc (.cells (agi Z25) 38)).setRow w2.heap.size (agi ps) := ⟨_, rfl⟩
           have S3 := hid (show Ms w V3 m from by rw [hV]; exact S2.out.below BB)
           rw [z25_eq] at hV
           rw [← hV]
           clear hV BB)
        | (refine wpList_storeM rfl (.tmp 4) (.tmp 21) rfl _ zeroM zeroM rfl (congrArg Value.agg zeroM_ag) S3.out.R zeroM_ok zeroM_ok ?_))
      refine bodyPost_ret (v := _) (hR _ _ _ zeroM rfl (MB.setRow S3.out.R zeroM) zeroM_ok) rfl ?_
      rw [FM2.out, FY2.out, HE2.out]
      exact NewM.bad (below_setRow S3.out.bel (g := w.heap.size + 1) (by omega) zeroM.ag)
end Go.Proofs.YthoiikkjjaldnaaGreatDoor

/- Two structs of numbers and arrays that are the same. -/
namespace Go.Proofs.YthoiikkjjaldnaaGreatDoor
set_option linter.unusedVariables false
set_option linter.unusedSimpArgs false
set_option maxRecDepth 100000
open Go.RowKit

theorem eqFields_self (d : Nat) (xs : Array Value) : ∀ fs : List Field, (∀ f ∈ fs, ∃ v, (∀ w, (part f.type xs f.offset).run Tryz.prog w = .ok v w) ∧ ∀ w, (Op.equalIn d f.type v v).run Tryz.prog w = .ok true w) → ∀ w, (Op.eqFields d xs xs fs).run Tryz.prog w = .ok true w
  | [], _, w => by simp [Op.eqFields]
  | f :: fs, h, w => by
    obtain ⟨v, h1, h2⟩ := h f (by simp)
    have ih := eqFields_self d xs fs (fun g hg => h g (by simp [hg])) w
    simp only [Op.eqFields, Sem.run_bind, Sem.run_ite]
    split
    · simp only [h1, h2, Result.andThen_ok, Bool.not_true, Bool.false_eq_true, if_false]
      exact ih
    · exact ih
theorem part_row {t : TypeId} {n o : Nat} (hs : ∀ w, (sizeOf t).run Tryz.prog w = .ok n w) (ha : ∀ w, (isAgg t).run Tryz.prog w = .ok true w) (cs A xs B : List Value) (he : cs = A ++ (xs ++ B)) (ho : A.length = o) (hl : xs.length = n) (w : World) :
    (part t cs.toArray o).run Tryz.prog w = .ok (.agg xs.toArray) w := by
  subst he
  subst ho
  subst hl
  have e : (A ++ (xs ++ B)).toArray.extract A.length (A.length + xs.length) = xs.toArray := by
    simp [List.extract_toArray]
  simp only [part, Sem.run_bind, ha, hs, Result.andThen_ok, if_true, Sem.run_pure, e]
theorem part_cell {t : TypeId} {o : Nat} (ha : ∀ w, (isAgg t).run Tryz.prog w = .ok false w) (cs A B : List Value) (v : Value) (he : cs = A ++ (v :: B)) (ho : A.length = o) (w : World) :
    (part t cs.toArray o).run Tryz.prog w = .ok v w := by
  subst he
  subst ho
  simp [part, ha]
theorem eql_struct {t : TypeId} (ht : Tryz.prog.underlying t = some (.struct (Tryz.prog.fieldsOf t))) (hp : Tryz.prog.stoodInHeld t = false) (xs : Array Value)
    (h : ∀ f ∈ (Tryz.prog.fieldsOf t).toList, ∃ v, (∀ w, (part f.type xs f.offset).run Tryz.prog w = .ok v w) ∧ ∀ w, (Op.equalIn 9999 f.type v v).run Tryz.prog w = .ok true w) (w : World) :
    (binOp .eql t (.agg xs) (.agg xs)).run Tryz.prog w = .ok (.bool true) w := by
  rw [run_eql_struct, run_equalIn_struct w 9999 t xs xs ht hp, eqFields_self 9999 xs _ h w]
  rfl
theorem eqi (x : Int) (w : World) : (Op.equalIn 9999 3 (.int .i64 x) (.int .i64 x)).run Tryz.prog w = .ok true w := by
  rw [run_equalIn_int w 9998 3 .i64 .i64 _ _ Tryz.underlying3]
  simp
theorem eqb (x : Bool) (w : World) : (Op.equalIn 9999 4 (.bool x) (.bool x)).run Tryz.prog w = .ok true w := by
  rw [run_equalIn_bool' w 9998 4 _ _ Tryz.underlying4]
  simp
/-- What a high-pass remembers is the same as itself. -/
theorem run_eql_high (xs : List Int) (hl : xs.length = 4) (w : World) : (binOp .eql 44 (.agg (agi xs)) (.agg (agi xs))).run Tryz.prog w = .ok (.bool true) w := by
  match xs, hl with
  | [a, b, c, d], _ =>
    refine eql_struct (by kernel_rfl) (by kernel_rfl) _ (fun f hf => ?_) w
    have hm : (f.type, f.offset) ∈ [(42, 0), (42, 2)] := by
      have e : (Tryz.prog.fieldsOf 44).toList.map (fun f => (f.type, f.offset)) = [(42, 0), (42, 2)] := by kernel_rfl
      rw [← e]
      exact List.mem_map_of_mem hf
    simp only [List.mem_cons, List.not_mem_nil, or_false, Prod.mk.injEq] at hm
    rcases hm with ⟨h1, h2⟩ | ⟨h1, h2⟩
    · rw [h1, h2]
      exact ⟨.agg (agi [a, b]), fun w => part_row (n := 2) (fun _ => by kernel_rfl) (fun _ => by kernel_rfl) _ [] (ints [a, b]) (ints [c, d]) rfl rfl rfl w, fun w => run_equalIn_agi 9997 Tryz.underlying42 [a, b] rfl w⟩
    · rw [h1, h2]
      exact ⟨.agg (agi [c, d]), fun w => part_row (n := 2) (fun _ => by kernel_rfl) (fun _ => by kernel_rfl) _ (ints [a, b]) (ints [c, d]) [] rfl rfl rfl w, fun w => run_equalIn_agi 9997 Tryz.underlying42 [c, d] rfl w⟩
/-- A memory is the same as itself. -/
theorem run_eql_mem (m : Mm) (k : m.ok) (w : World) : (binOp .eql 25 (.agg m.ag) (.agg m.ag)).run Tryz.prog w = .ok (.bool true) w := by
  refine eql_struct (by kernel_rfl) (by kernel_rfl) _ (fun f hf => ?_) w
  have hm : (f.type, f.offset) ∈ [(22, 0), (22, 8), (23, 16), (3, 96), (3, 97), (3, 98), (3, 99), (3, 100), (4, 101)] := by
    have e : (Tryz.prog.fieldsOf 25).toList.map (fun f => (f.type, f.offset)) = [(22, 0), (22, 8), (23, 16), (3, 96), (3, 97), (3, 98), (3, 99), (3, 100), (4, 101)] := by kernel_rfl
    rw [← e]
    exact List.mem_map_of_mem hf
  simp only [List.mem_cons, List.not_mem_nil, or_false, Prod.mk.injEq] at hm
  have l16 : (ints m.r ++ ints m.p).length = 16 := by simp only [List.length_append, ints_len, k.r, k.p]
  have l96 : (ints m.r ++ (ints m.p ++ ints m.e)).length = 96 := by simp only [List.length_append, ints_len, k.r, k.p, k.e]
  have e96 : m.cs = (ints m.r ++ (ints m.p ++ ints m.e)) ++ m.tl := by unfold Mm.cs Mm.tl; simp only [List.append_assoc]
  have ic : ∀ (o : Nat) (A B : List Value) (x : Int), m.tl = A ++ (.int .i64 x :: B) → 96 + A.length = o → ∃ v, (∀ w, (part 3 m.ag o).run Tryz.prog w = .ok v w) ∧ ∀ w, (Op.equalIn 9999 3 v v).run Tryz.prog w = .ok true w := fun o A B x hx ho =>
    ⟨.int .i64 x, fun w => part_cell (fun _ => by kernel_rfl) m.cs ((ints m.r ++ (ints m.p ++ ints m.e)) ++ A) B (.int .i64 x) (by rw [e96, hx]; simp only [List.append_assoc]) (by rw [List.length_append, l96, ho]) w, eqi x⟩
  rcases hm with ⟨h1, h2⟩ | ⟨h1, h2⟩ | ⟨h1, h2⟩ | ⟨h1, h2⟩ | ⟨h1, h2⟩ | ⟨h1, h2⟩ | ⟨h1, h2⟩ | ⟨h1, h2⟩ | ⟨h1, h2⟩ <;> rw [h1, h2]
  · exact ⟨.agg (agi m.r), fun w => part_row (n := 8) (fun _ => by kernel_rfl) (fun _ => by kernel_rfl) m.cs [] (ints m.r) _ rfl rfl (by rw [ints_len, k.r]) w, fun w => run_equalIn_agi 9997 Tryz.underlying22 _ k.r w⟩
  · exact ⟨.agg (agi m.p), fun w => part_row (n := 8) (fun _ => by kernel_rfl) (fun _ => by kernel_rfl) m.cs (ints m.r) (ints m.p) _ rfl (by rw [ints_len, k.r]) (by rw [ints_len, k.p]) w, fun w => run_equalIn_agi 9997 Tryz.underlying22 _ k.p w⟩
  · exact ⟨.agg (agi m.e), fun w => part_row (n := 80) (fun _ => by kernel_rfl) (fun _ => by kernel_rfl) m.cs (ints m.r ++ ints m.p) (ints m.e) m.tl (by unfold Mm.cs Mm.tl; simp only [List.append_assoc]) l16 (by rw [ints_len, k.e]) w, fun w => run_equalIn_agi 9997 Tryz.underlying23 _ k.e w⟩
  · exact ic 96 [] _ m.ga rfl rfl
  · exact ic 97 [_] _ m.pi rfl rfl
  · exact ic 98 [_, _] _ m.la rfl rfl
  · exact ic 99 [_, _, _] _ m.er rfl rfl
  · exact ic 100 [_, _, _, _] _ m.se rfl rfl
  · exact ⟨.bool m.si, fun w => part_cell (fun _ => by kernel_rfl) m.cs ((ints m.r ++ (ints m.p ++ ints m.e)) ++ [.int .i64 m.ga, .int .i64 m.pi, .int .i64 m.la, .int .i64 m.er, .int .i64 m.se]) [] (.bool m.si) (by rw [e96]; unfold Mm.tl; simp only [List.append_assoc]; rfl) (by rw [List.length_append, l96]; rfl) w, eqb m.si⟩
end Go.Proofs.YthoiikkjjaldnaaGreatDoor

/- The walks of an Int's bytes. -/
namespace Go.Proofs.YthoiikkjjaldnaaGreatDoor
set_option linter.unusedVariables false
set_option linter.unusedSimpArgs false
set_option maxRecDepth 100000
open Go.RowKit

theorem word_at {ws : List Nat} (hok : wok ws) {k : Nat} (hk : k < ws.length) : ws.getD k 0 = wv ws / 2 ^ (32 * k) % 2 ^ 32 := by
  have h1 := wv_drop ws hok k (by omega)
  have h2 : ws.drop k = ws.getD k 0 :: ws.drop (k + 1) := by
    rw [List.drop_eq_getElem_cons hk, List.getD_eq_getElem?_getD, List.getElem?_eq_getElem hk]
    rfl
  have h3 := wok_getD hok k
  rw [h2] at h1
  simp only [wv] at h1
  have e : (4294967296 : Nat) ^ k = 2 ^ (32 * k) := by rw [Nat.pow_mul]
  rw [← e, ← h1, show (2 : Nat) ^ 32 = 4294967296 from rfl]
  omega
/-- A byte of a word is a byte of the number. -/
theorem word_byte (X i : Nat) : X / 2 ^ (32 * (i / 4)) % 2 ^ 32 / 2 ^ (8 * (i % 4)) % 256 = digE X (8 * i) := by
  apply Nat.eq_of_testBit_eq
  intro q
  rw [digE_bit, show 256 = 2 ^ 8 from rfl, Nat.testBit_mod_two_pow, Nat.testBit_div_two_pow, Nat.testBit_mod_two_pow, Nat.testBit_div_two_pow]
  by_cases hq : q < 8
  · have h1 : q + 8 * (i % 4) < 32 := by omega
    have h2 : q + 8 * (i % 4) + 32 * (i / 4) = 8 * i + q := by omega
    rw [h2]
    simp [hq, h1]
  · simp [hq]
/-- The n bytes of a number, the least i of them laid. -/
def byN (X n i : Nat) : List Int := (List.range n).map (fun j => if n - 1 - j < i then (digE X (8 * (n - 1 - j)) : Int) else 0)
theorem byN_len (X n i : Nat) : (byN X n i).length = n := by simp [byN]
theorem byN_zero (X n : Nat) : byN X n 0 = List.replicate n 0 := by
  refine List.ext_getElem? fun j => ?_
  unfold byN
  by_cases hj : j < n
  · simp [hj]
  · simp [hj]
theorem byN_set (X n : Nat) {i : Nat} (hi : i < n) : (byN X n i).set (n - 1 - i) (digE X (8 * i) : Nat) = byN X n (i + 1) := by
  refine List.ext_getElem? fun j => ?_
  by_cases hj : j < n
  · rw [List.getElem?_set, byN_len]
    unfold byN
    simp only [List.getElem?_map, List.getElem?_range hj, Option.map_some]
    by_cases e : n - 1 - i = j
    · rw [if_pos e, if_pos (by omega), if_pos (by omega), show n - 1 - j = i by omega]
    · rw [if_neg e]
      congr 1
      by_cases h : n - 1 - j < i
      · rw [if_pos h, if_pos (by omega)]
      · rw [if_neg h, if_neg (by omega)]
  · rw [List.getElem?_eq_none (by rw [List.length_set, byN_len]; omega), List.getElem?_eq_none (by rw [byN_len]; omega)]
/-- All fourteen bytes: those of a shorter number stand at the end. -/
theorem byN_all {X n : Nat} (hn : n ≤ 14) (hX : X < 2 ^ (8 * n)) : List.replicate (14 - n) 0 ++ byN X n n = digL X := by
  refine List.ext_getElem? fun j => ?_
  by_cases hj : j < 14
  · rw [digL_get X hj]
    by_cases h : j < 14 - n
    · rw [List.getElem?_append_left (by simp; exact h), List.getElem?_replicate, if_pos h]
      have : X < 2 ^ (8 * (13 - j)) := Nat.lt_of_lt_of_le hX (Nat.pow_le_pow_right (by decide) (by omega))
      unfold digE
      rw [Nat.div_eq_of_lt this]
      rfl
    · rw [List.getElem?_append_right (by simp; omega), List.length_replicate]
      unfold byN
      have hr : j - (14 - n) < n := by omega
      simp only [List.getElem?_map, List.getElem?_range hr, Option.map_some]
      rw [if_pos (by omega), show n - 1 - (j - (14 - n)) = 13 - j by omega]
  · rw [List.getElem?_eq_none (by simp [byN_len]; omega), List.getElem?_eq_none (by rw [digL_len]; omega)]
theorem OwnB.set_ {w : World} {base c g : Nat} {xs : List Int} (h : OwnB w base (some ⟨g, 0, none⟩) c xs) (k : Nat) (x : Int) : OwnB (w.setCell ⟨g, k, none⟩ (.int .u8 x)) base (some ⟨g, 0, none⟩) c (xs.set k x) := by
  have h1 := World.ownsRow.stored (g := g) (cap := c) h k (.int .u8 x)
  unfold OwnB
  rw [List.length_set]
  have e : bts (xs.set k x) = (bts xs).set k (.int .u8 x) := by simp [bts, List.map_set]
  rw [e]; exact h1.1
theorem OwnB.cell {w : World} {base c g : Nat} {xs : List Int} (h : OwnB w base (some ⟨g, 0, none⟩) c xs) (k : Nat) (hk : k < xs.length) : w.cell? ⟨g, k, none⟩ = some (.int .u8 (xs.getD k 0)) := by
  have h1 := World.ownsRow.cellAt (g := g) (cap := c) h k (by omega)
  rw [h1]; exact bts_get xs k hk
theorem OwnB.frozen {w : World} {base c g : Nat} {xs : List Int} (h : OwnB w base (some ⟨g, 0, none⟩) c xs) (k : Nat) : w.frozen? ⟨g, k, none⟩ = false := World.ownsRow.frozenAt h k
/-- How many bytes a number has. -/
def byC (X : Nat) : Nat := (bitlen X + 7) / 8
theorem byC_lt (X : Nat) : X < 2 ^ (8 * byC X) := Nat.lt_of_lt_of_le (bitlen_lt X) (Nat.pow_le_pow_right (by decide) (by unfold byC; omega))
theorem byC_le {X : Nat} (h : X < 2 ^ 112) : byC X ≤ 14 := by
  have := bitlen_le_of_lt h
  unfold byC
  omega

set_option maxHeartbeats 4000000 in
theorem Bytes_any (w : World) (c X : Nat) (hc : IntAt w c (X : Nat)) (hX : X < 2 ^ 112) :
    Calls Tryz.prog 82 #[.pointer (some ⟨c, 0, none⟩)] w fun e w' => ∃ g, e = .returned (.slice (some ⟨g, 0, none⟩) (byC X) (byC X)) ∧ w.heap.size ≤ g ∧ OwnB w' w.heap.size (some ⟨g, 0, none⟩) (byC X) (byN X (byC X) (byC X)) ∧ Below w.heap.size w w' := by
  have hs : Sm (X : Int).natAbs := sm_of_lt (by show X < _; exact Nat.lt_trans hX (by decide))
  obtain ⟨v, _, hc1, hv⟩ := hc.cells
  have hv : Nm w v X := hv
  have hs : Sm X := hs
  obtain ⟨ao, len, cap, ws, rfl, hr, ht, hwv, hl⟩ := hv.len hs
  have KL := hid (length_any w (.slice ao len cap) X hv hs)
  have hb1 : bitlen X ≤ 32 * len := by
    have h1 := wv_lt hr.ok
    rw [hwv, hr.len] at h1
    have e : (4294967296 : Nat) ^ len = 2 ^ (32 * len) := by rw [Nat.pow_mul]
    rw [e] at h1
    exact bitlen_le_of_lt h1
  have hb2 : bitlen X ≤ 112 := bitlen_le_of_lt hX
  obtain ⟨n, hn⟩ : ∃ n, n = byC X := ⟨_, rfl⟩
  rw [← hn]
  unfold byC at hn
  generalize bitlen X = bl at *
  have hw0 : IntKind.i64.wrap ((bl : Int) + 7) = (bl : Int) + 7 := by rw [IntKind.wrap_i64]; omega
  have hq0 : ((bl : Int) + 7) / 8 = (n : Nat) := by omega
  have HC := hid hc.lt
  have H1 := hid hc1
  have HR := hid hr
  have HWV := hid hwv
  have hn14 : n ≤ 14 := by omega
  have HNN := hid hn
  clear hv ht hc hs hn hwv hX
  go_enter Tryz.func82, Tryz.ntmps82
  go_wp2_with (first
    | (go_at_call 154; (with_reducible refine KL.out.mono ?_); rintro e w' ⟨rfl, rfl⟩)
    | (at_make; refine wpList_makeB rfl _ _ rfl .i64 .i64 n (by first | rfl | (show Value.int .i64 (((bl : Int) + 7) / 8) = _; rw [hq0])) (by first | rfl | (show Value.int .i64 (((bl : Int) + 7) / 8) = _; rw [hq0])) w.heap.size (by omega) (Nat.le_refl _) ?_; intro w1 hO hG; have O1 := hid (show OwnB w1 w.heap.size (some ⟨w.heap.size, 0, none⟩) n (byN X n 0) by rw [byN_zero]; exact hO); have B1 := hid ((Below.refl w.heap.size w).grown hG (Nat.le_refl _) (by simp)); clear hO hG))
  try rw [hq0]
  clear hw0 hq0 hc1
  go_loopw [5] (fun iv wr => ∃ i : Nat, i ≤ n ∧ iv = .int .i64 i ∧ Hid (OwnB wr w.heap.size (some ⟨w.heap.size, 0, none⟩) n (byN X n i)) ∧ Hid (Below w.heap.size w wr)) (fun iv _ => n - (intOf iv).toNat)
  case atStart => exact ⟨0, by omega, rfl, O1, B1⟩
  case round =>
    clear O1 B1
    obtain ⟨i, hi, rfl, HO, HB⟩ := hrel
    by_cases hlt : i < n
    · have hil : i / 4 < len := by have := HNN.out; omega
      obtain ⟨g, off, rfl⟩ := HR.out.addr (by omega)
      have rr := HR.out.below HB.out (Nat.le_refl _)
      obtain ⟨k, hk⟩ : ∃ k, k = i / 4 := ⟨_, rfl⟩
      obtain ⟨s, hs⟩ : ∃ s, s = 8 * (i % 4) := ⟨_, rfl⟩
      obtain ⟨J, hJ⟩ : ∃ J, J = n - 1 - i := ⟨_, rfl⟩
      have cw := rr.cell k (by omega)
      have ca : wr.cell? ⟨c, 1, none⟩ = some (.slice (some ⟨g, off, none⟩) len cap) := (HB.out.cell (p := ⟨c, 1, none⟩) HC.out).trans H1.out
      have wx := word_at HR.out.ok (k := k) (by rw [HR.out.len]; omega)
      rw [HWV.out] at wx
      have wl := wok_getD HR.out.ok k
      have DX := word_byte X i
      rw [← hk, ← hs] at DX
      rw [← wx] at DX
      have HSet := hid (byN_set X n hlt)
      rw [← hJ] at HSet
      have co := HO.out.cell J (by rw [byN_len]; omega)
      have fo := HO.out.frozen J
      generalize ws.getD k 0 = wk at *
      obtain ⟨d, hd⟩ : ∃ d, d = digE X (8 * i) := ⟨_, rfl⟩
      rw [← hd] at DX HSet
      obtain ⟨y, hy⟩ : ∃ y, y = wk / 2 ^ s := ⟨_, rfl⟩
      rw [← hy] at DX
      have hyd : (wk : Int) / 2 ^ s = (y : Nat) := by rw [hy]; simp
      have hd8 : IntKind.u8.wrap ((y : Nat) : Int) = (d : Nat) := by rw [IntKind.wrap_u8]; omega
      have hw1 : IntKind.i64.wrap ((n : Int) - 1) = (n : Int) - 1 := by rw [IntKind.wrap_i64]; omega
      have hw2 : IntKind.i64.wrap ((n : Int) - 1 - i) = (J : Nat) := by rw [IntKind.wrap_i64]; omega
      have hk4 : (i : Int) / 4 = (k : Nat) := by omega
      have hiu : IntKind.u64.wrap (i : Int) = i := by rw [IntKind.wrap_u64]; omega
      have hms : IntKind.u64.wrap (8 * ((i : Int) % 4)) = (s : Nat) := by rw [IntKind.wrap_u64]; omega
      have s0 : (0 : Int) ≤ s := by omega
      have s64 : (s : Int) < 64 := by omega
      have s32 : (s : Int) < 32 := by omega
      have J0 : (0 : Int) ≤ J := by omega
      have Jn : (J : Int) < n := by omega
      have k0 : (0 : Int) ≤ k := by omega
      have kl : (k : Int) < len := by omega
      have NO := hid (show OwnB (wr.setCell ⟨w.heap.size, J, none⟩ (.int .u8 (d : Nat))) w.heap.size (some ⟨w.heap.size, 0, none⟩) n (byN X n (i + 1)) from by rw [← HSet.out]; exact HO.out.set_ J _)
      have NB := hid (HB.out.setCell (p := ⟨w.heap.size, J, none⟩) (Nat.le_refl _) (.int .u8 (d : Nat)))
      clear hk hs hJ hd hy wx wl rr
      go_wp2
      go_roundw
      case rel => exact ⟨i + 1, by omega, by go_num, NO, NB⟩
      case measure => simp [intOf] <;> omega
    · obtain rfl : i = n := by omega
      go_wp2
      go_ret
      exact ⟨_, rfl, Nat.le_refl _, HO.out, HB.out⟩
end Go.Proofs.YthoiikkjjaldnaaGreatDoor

/- The walk of FillBytes. -/
namespace Go.Proofs.YthoiikkjjaldnaaGreatDoor
set_option linter.unusedVariables false
set_option linter.unusedSimpArgs false
set_option maxRecDepth 100000
open Go.RowKit

theorem below_same {B : Nat} {w wr : World} {g i : Nat} {t : TypeId} {cs : Array Value} {v : Value} (h : Below B w wr) (hb : Blk wr g t cs) (hi : cs[i]? = some v) : Below B w (wr.setCell ⟨g, i, none⟩ v) :=
  ⟨h.os, h.tape, h.output, by simpa [World.setCell] using h.size, fun k hk => by
    by_cases e : k = g
    · subst e
      have h1 := Blk.set_ hb i v
      have e2 : cs.setIfInBounds i v = cs := by
        have hlt : i < cs.size := by
          rcases Nat.lt_or_ge i cs.size with h3 | h3
          · exact h3
          · rw [Array.getElem?_eq_none h3] at hi; cases hi
        apply Array.ext
        · simp
        · intro j h3 h4
          rw [Array.getElem_setIfInBounds]
          split
          · rename_i e3
            subst e3
            rw [Array.getElem?_eq_getElem hlt] at hi
            exact (Option.some.inj hi).symm
          · rfl
      rw [e2] at h1
      exact h1.trans (hb.symm.trans (h.block k hk))
    · exact (Below.heap_setCell wr _ v k e).trans (h.block k hk)⟩
theorem infoBz : (Tryz.prog.info? 5).map (·.size) = some 1 := by kernel_rfl
theorem splice_bytes {X n : Nat} (hn : n ≤ 14) (hX : X < 2 ^ (8 * n)) : splice (bts (List.replicate 14 0)) (14 - n) (bts (byN X n n)) = bts (digL X) := by
  rw [← byN_all hn hX]
  unfold splice bts
  rw [List.length_map, byN_len, ← List.map_take, ← List.map_drop, List.map_append, List.take_replicate, List.drop_replicate]
  rw [show min (14 - n) 14 = 14 - n by omega, show 14 - (14 - n + n) = 0 by omega]
  simp
theorem rb_cells {w : World} {B : Nat} {ad : Addr} {xs : List Int} (h : Rb w B (some ad) xs) (hn : 0 < xs.length) : ∀ j u, (bts xs)[j]? = some u → w.cell? (ad.add j) = some u := by
  obtain ⟨a, e, _, hc⟩ := h.2 hn
  injection e with e
  subst e
  exact hc
set_option maxHeartbeats 4000000 in
theorem FillBytes_any (w : World) (c gb X : Nat) (hc : IntAt w c (X : Nat)) (hX : X < 2 ^ 112) (hb : Blk w gb 5 (bts (List.replicate 14 0)).toArray) :
    Calls Tryz.prog 34 #[.pointer (some ⟨c, 0, none⟩), .slice (some ⟨gb, 0, none⟩) 14 14] w fun e w' => e = .returned (.slice (some ⟨gb, 0, none⟩) 14 14) ∧ Blk w' gb 5 (bts (digL X)).toArray ∧ Below gb w w' := by
  have HC := hid hc
  have HB0 := hid hb
  have hgl := Blk.lt hb
  have hn14 := byC_le hX
  have hXn := byC_lt X
  have KB := hid (fun W (h : IntAt W c (X : Nat)) => Bytes_any W c X h hX)
  obtain ⟨n, hn⟩ : ∃ n, n = byC X := ⟨_, rfl⟩
  rw [← hn] at hn14 hXn KB
  have HXN := hid hXn
  clear hc hb hX hn hXn
  go_enter Tryz.func34, Tryz.ntmps34
  go_wp2
  go_loopw [9] (fun iv wr => ∃ i : Nat, i ≤ 14 ∧ iv = .int .i64 i ∧ Hid (Below w.heap.size w wr)) (fun iv _ => 14 - (intOf iv).toNat)
  case atStart => exact ⟨0, by omega, rfl, hid (Below.refl _ _)⟩
  case round =>
    obtain ⟨i, hi, rfl, HB⟩ := hrel
    have HG := hid (Blk.below' HB0.out HB.out)
    by_cases hlt : i < 14
    · have hv : (bts (List.replicate 14 0)).toArray[i]? = some (.int .u8 0) := by
        simp only [List.getElem?_toArray]
        rw [bts_get _ _ (by simp; exact hlt), List.getD_eq_getElem?_getD, List.getElem?_replicate, if_pos hlt]
        rfl
      have c0 : wr.cell? ⟨gb, i, none⟩ = some (.int .u8 0) := (Blk.cell HG.out i).trans hv
      have f0 := Blk.frozen HG.out i
      have NB := hid (below_same HB.out HG.out hv)
      have i0 : (0 : Int) ≤ i := by omega
      have i14 : (i : Int) < 14 := by omega
      clear hv
      go_wp2
      go_roundw
      case rel => exact ⟨i + 1, by omega, by go_num, NB⟩
      case measure => simp [intOf] <;> omega
    · obtain rfl : i = 14 := by omega
      try rw [show ((14 : Nat) : Int) = 14 from rfl]
      have HCr := hid (HC.out.below HB.out (Nat.le_refl _))
      rcases Nat.eq_zero_or_pos n with hz | hp
      · subst hz
        have hD := hid (show bts (digL X) = bts (List.replicate 14 0) from by
          have := splice_bytes hn14 HXN.out
          rw [← this]
          rfl)
        go_wp2_with (first
          | (go_at_call 82; (with_reducible refine (KB.out wr HCr.out).mono ?_); rintro e w1 ⟨g, rfl, hg, hO, hB⟩; have O1 := hid hO; have G1 := hid (Blk.below' HG.out hB); have B1 := hid (HB.out.trans (hB.mono HB.out.size)); have GG := hid hg; clear hO hB hg)
          | (refine wpList_copy_nothing rfl (.tmp 29) (.tmp 30) 26 26 rfl 5 Tryz.underlying26 infoBz (some ⟨gb, 0, none⟩) (some ⟨g, 0, none⟩) 0 0 0 0 rfl rfl rfl ?_))
        go_ret
        exact ⟨rfl, by rw [hD.out]; exact G1.out, B1.out.mono (Nat.le_of_lt hgl)⟩
      · have hle : decide ((n : Int) ≤ 14) = true := by simp; omega
        obtain ⟨lo, hlo⟩ : ∃ lo, lo = 14 - n := ⟨_, rfl⟩
        have hw1 : IntKind.i64.wrap (14 - (n : Int)) = (lo : Nat) := by rw [IntKind.wrap_i64]; omega
        have hlo14 : lo < 14 := by omega
        have hne : ¬ 14 = lo := by omega
        have l0 : (0 : Int) ≤ lo := by omega
        have l14 : (lo : Int) ≤ 14 := by omega
        have HLO := hid hlo
        clear hlo
        go_wp2_with (first
          | (go_at_call 82; (with_reducible refine (KB.out wr HCr.out).mono ?_); rintro e w1 ⟨g, rfl, hg, hO, hB⟩; have O1 := hid hO; have G1 := hid (Blk.below' HG.out hB); have B1 := hid (HB.out.trans (hB.mono HB.out.size)); have GG := hid hg; clear hO hB hg)
          | (refine wpList_copy_splice rfl (.tmp 29) (.tmp 30) 26 26 rfl 5 Tryz.underlying26 infoBz (some ⟨gb, lo, none⟩) (some ⟨g, 0, none⟩) (14 - lo) (14 - lo) n n rfl rfl gb lo (bts (List.replicate 14 0)) 5 G1.out (bts (byN X n n)) (by rw [bts_len, byN_len]; show n = min n (14 - lo); have := HLO.out; omega) (fun h0 => ⟨rfl, _, rfl, rb_cells O1.out.reads (by rw [bts_len] at h0; exact h0)⟩) (by rw [bts_len, bts_len, byN_len, List.length_replicate]; have := HLO.out; omega) (bts_one _) gb w (B1.out.mono (Nat.le_of_lt hgl)) (Nat.le_refl _) ?_; intro w2 hS hB2; have S2 := hid (show Blk w2 gb 5 (bts (digL X)).toArray from by rw [← splice_bytes hn14 HXN.out, ← HLO.out]; exact hS); have B2 := hid hB2; clear hS hB2))
        go_ret
        exact ⟨rfl, S2.out, B2.out⟩
end Go.Proofs.YthoiikkjjaldnaaGreatDoor

/- The walk of the reference's Pack. -/
namespace Go.Proofs.YthoiikkjjaldnaaGreatDoor
set_option linter.unusedVariables false
set_option linter.unusedSimpArgs false
set_option maxRecDepth 100000
open Go.RowKit

theorem rb_one {w : World} {B g : Nat} {y : Int} (h : w.cell? ⟨g, 0, none⟩ = some (.int .u8 y)) (hg : g < B) : Rb w B (some ⟨g, 0, none⟩) [y] :=
  ⟨by simp [bts], fun _ => ⟨_, rfl, hg, fun j u hj => by
    match j, hj with
    | 0, hj => simp [bts] at hj; subst hj; rw [add_zero']; exact h⟩⟩
set_option maxHeartbeats 4000000 in
theorem refPack_any (ps : List Int) (w : World) (T : TabS w 0 widthL) (hl : ps.length = 25) (hw : W64 ps) :
    Calls Tryz.prog 8 #[.agg (agi ps)] w (PkOut ps w) := by
  have P0 := hid (IB.new w 38 ps)
  have B0 := hid ((Below.refl w.heap.size w).alloc (Nat.le_refl _) (.cells (agi ps) 38))
  have T0 := hid (T.below B0.out)
  have HL := hid hl
  obtain ⟨V, hV⟩ : ∃ V, V = w.alloc (.cells (agi ps) 38) := ⟨_, rfl⟩
  rw [← hV] at P0 B0 T0
  have HV := hid hV
  have KG := hid (refGoodP_any ps V T0.out hl)
  have KN := hid (fun W (h : TabS W 0 widthL) => numbers_any ps W h hl)
  have KP := hid (fun W => refParity_any ps W hl hw)
  clear T hl hw hV
  by_cases hg : pkTo ps 25 = true
  · have HG := hid hg
    have HBY := hid (show pkBytes ps = digL (pkW ps) ++ [chk (digL (pkW ps))] from if_pos hg)
    have HER := hid (show pkErr ps = 0 from if_pos hg)
    rw [hg] at KG
    clear hg
    go_enter Tryz.func8, Tryz.ntmps8
    go_wp2_with (first
      | (rw [← HV.out]; clear HV)
      | (refine wpList_loadI rfl 38 (.tmp 1) rfl _ 38 ps 25 _ rfl P0.out Tryz.underlying38 rfl size25d HL.out ?_)
      | (go_at_call 28; (with_reducible refine KG.out.mono ?_); rintro e w1 ⟨rfl, hB⟩; have P1 := hid (Blk.below' P0.out hB); have T1 := hid (T0.out.below hB); have B1 := hid (B0.out.trans (hB.mono B0.out.size)); clear hB)
      | (refine wpList_loadI rfl 38 (.tmp 1) rfl _ 38 ps 25 _ rfl P1.out Tryz.underlying38 rfl size25d HL.out ?_)
      | (go_at_call 29; (with_reducible refine (KN.out w1 T1.out).mono ?_); rintro e w2 ⟨A1, c1, A2, c2, A3, c3, rfl, h1, h2, h3, hB⟩; have O1 := hid h1.reads; have O2 := hid h2.reads; have P2 := hid (Blk.below' P1.out hB); have B2 := hid (B1.out.trans (hB.mono B1.out.size)); clear h1 h2 h3 hB))
    have I0 := hid (show IntAt (w2.alloc (.cells #[.bool false, .slice none 0 0] 80)) w2.heap.size ((pkX ps 0 : Nat) : Int) from IntAt_zero w2)
    have L0 := hid ((Below.refl w2.heap.size w2).alloc (Nat.le_refl _) (.cells #[.bool false, .slice none 0 0] 80))
    go_loopw [8, 23] (fun nv iv wr => ∃ i : Nat, i ≤ 25 ∧ iv = .int .i64 i ∧ nv = .int .i64 (pkA i : Nat) ∧ Hid (IntAt wr w2.heap.size ((pkX ps i : Nat) : Int)) ∧ Hid (Below w2.heap.size w2 wr)) (fun _ iv _ => 25 - (intOf iv).toNat)
    case atStart => exact ⟨0, by omega, rfl, rfl, I0, L0⟩
    case round =>
      clear I0 L0
      obtain ⟨i, hi, rfl, rfl, HI, HB⟩ := hrel
      by_cases hlt : i < 25
      · obtain ⟨ad, rfl, had, q0⟩ := O1.out.at_ (k := i) (by rw [HL.out]; exact hlt)
        obtain ⟨ae, rfl, hae, q1⟩ := O2.out.at_ (k := i) (by rw [pkB_len]; exact hlt)
        obtain ⟨hv1, hv2⟩ := pk_lt HG.out hlt
        obtain ⟨hn1, hn2, _⟩ := pkN_le hlt
        have ha := pkA_le (n := i + 1) (by omega)
        have hx := pkX_lt HG.out i hi
        have hx2 := pkX_lt HG.out (i + 1) hlt
        have SX := hid (show pkX ps (i + 1) = pkX ps i * 2 ^ pkN i + (ps.getD i 0).toNat from rfl)
        have SY := hid (show pkA (i + 1) = pkA i + pkN i from rfl)
        rw [SY.out] at ha
        rw [hv2] at q0
        rw [hn2] at q1
        have hXs : (pkX ps i * 2 ^ pkN i) < 340282366920938463463374607431768211456 := by
          have h1 : pkX ps (i + 1) < 2 ^ 106 := Nat.lt_of_lt_of_le hx2 (Nat.pow_le_pow_right (by decide) (by rw [SY.out]; omega))
          rw [SX.out] at h1
          have h2 : (2 : Nat) ^ 106 ≤ 340282366920938463463374607431768211456 := by decide
          omega
        have hXt : pkX ps i < 340282366920938463463374607431768211456 := by
          have h1 : pkX ps i < 2 ^ 106 := Nat.lt_of_lt_of_le hx (Nat.pow_le_pow_right (by decide) (by omega))
          have h2 : (2 : Nat) ^ 106 ≤ 340282366920938463463374607431768211456 := by decide
          omega
        have hvb : (ps.getD i 0).toNat < 64 := Nat.lt_of_lt_of_le hv1 (show 2 ^ pkN i ≤ 2 ^ 6 from Nat.pow_le_pow_right (by decide) hn1)
        generalize (ps.getD i 0).toNat = v at *
        generalize pkN i = n at *
        generalize pkX ps i = X at *
        generalize pkA i = a at *
        obtain ⟨Y, hY⟩ : ∃ Y, Y = X * 2 ^ n := ⟨_, rfl⟩
        rw [← hY] at hXs SX
        have KL := hid (show Calls Tryz.prog 30 #[.pointer (some ⟨w2.heap.size, 0, none⟩), .pointer (some ⟨w2.heap.size, 0, none⟩), .int .u64 (n : Nat)] wr (Gives wr w2.heap.size ((Y : Nat) : Int)) from by
          have h := Lsh_any wr w2.heap.size w2.heap.size ((X : Nat) : Int) n HI.out.blk HI.out (sm_of_lt hXt) (by omega)
          rw [show ((X : Nat) : Int) * 2 ^ n = ((Y : Nat) : Int) by rw [hY]; simp] at h
          exact h)
        have KA := hid (fun W => whole_any W ((v : Nat) : Int) (by omega) (by omega))
        have KS := hid (fun W b h1 h2 => Add_any W w2.heap.size w2.heap.size b ((Y : Nat) : Int) ((v : Nat) : Int) (IntAt.blk h1) h1 h2 (sm_of_lt hXs) (sm_of_lt (by show v < _; omega)))
        have hnu : IntKind.u64.wrap ((n : Nat) : Int) = (n : Nat) := by rw [IntKind.wrap_u64]; omega
        have hwa : IntKind.i64.wrap ((a : Int) + (n : Nat)) = (a : Int) + n := by rw [IntKind.wrap_i64]; omega
        have k1 : wr.cell? (ae.add i) = some (.int .i64 (n : Nat)) := (HB.out.cell (by rw [block_of_add]; exact hae)).trans q1
        have i0 : (0 : Int) ≤ i := by omega
        have i25 : (i : Int) < 25 := by omega
        have Q0 := hid q0
        have Q1 := hid q1
        have HA := hid had
        have HE := hid hae
        clear hv1 hv2 hn2 hx hx2 hXs hXt hY q0 q1 had hae
        go_wp2_with (first
          | (go_at_call 30; (with_reducible refine KL.out.mono ?_); rintro e wL ⟨rfl, hI, hG⟩; have IL := hid hI; have BL := hid (below_of_grownBy HB.out hG (Nat.le_refl _)); have kL := (BL.out.cell (p := ad.add i) (by rw [block_of_add]; exact HA.out)).trans Q0.out; clear hI hG)
          | (go_at_call 32; (with_reducible refine (KA.out wL).mono ?_); rintro e wA ⟨bA, rfl, hbA, hIA, hBA⟩; have IA := hid hIA; have XA := hid (IL.out.below hBA (Nat.le_refl _)); have BA := hid (BL.out.trans (hBA.mono BL.out.size)); clear hIA hBA)
          | (go_at_call 31; (with_reducible refine (KS.out wA bA XA.out IA.out).mono ?_); rintro e wS ⟨rfl, hIS, hGS⟩; have IS := hid hIS; have BS := hid (below_of_grownBy BA.out hGS (Nat.le_refl _)); have kS := (BS.out.cell (p := ae.add i) (by rw [block_of_add]; exact HE.out)).trans Q1.out; clear hIS hGS))
        go_roundw
        case rel => exact ⟨i + 1, by omega, by go_num, by rw [SY.out]; push_cast; rfl, hid (by rw [SX.out]; push_cast; exact IS.out), BS⟩
        case measure => simp [intOf] <;> omega
      · obtain rfl : i = 25 := by omega
        have hx := pkX_lt HG.out 25 (by omega)
        rw [pkA_end] at hx
        rw [show ((pkA 25 : Nat) : Int) = 106 from by rw [pkA_end]; rfl]
        try rw [show ((25 : Nat) : Int) = 25 from rfl]
        rw [pkQ_eq] at KP
        have hqq : pkQ ps < 2 := Nat.mod_lt _ (by decide)
        have HW := hid (pkW_eq HG.out)
        have hW := pkW_lt HG.out
        generalize pkQ ps = q at *
        generalize pkX ps 25 = X at *
        have KL1 := hid (show Calls Tryz.prog 30 #[.pointer (some ⟨w2.heap.size, 0, none⟩), .pointer (some ⟨w2.heap.size, 0, none⟩), .int .u64 1] wr (Gives wr w2.heap.size ((X * 2 : Nat) : Int)) from by
          have h := Lsh_any wr w2.heap.size w2.heap.size ((X : Nat) : Int) 1 HI.out.blk HI.out (sm_of_lt (by show X < _; omega)) (by omega)
          rw [show ((X : Nat) : Int) * 2 ^ 1 = ((X * 2 : Nat) : Int) by simp] at h
          exact h)
        have KA := hid (fun W => whole_any W ((q : Nat) : Int) (by omega) (by omega))
        have KS := hid (fun W b h1 h2 => show Calls Tryz.prog 31 #[.pointer (some ⟨w2.heap.size, 0, none⟩), .pointer (some ⟨w2.heap.size, 0, none⟩), .pointer (some ⟨b, 0, none⟩)] W (Gives W w2.heap.size ((X * 2 + q : Nat) : Int)) from by
          have h := Add_any W w2.heap.size w2.heap.size b ((X * 2 : Nat) : Int) ((q : Nat) : Int) (IntAt.blk h1) h1 h2 (sm_of_lt (by show X * 2 < _; omega)) (sm_of_lt (by show q < _; omega))
          rw [show ((X * 2 : Nat) : Int) + ((q : Nat) : Int) = ((X * 2 + q : Nat) : Int) by simp] at h
          exact h)
        have KL5 := hid (fun W (h1 : IntAt W w2.heap.size ((X * 2 + q : Nat) : Int)) => show Calls Tryz.prog 30 #[.pointer (some ⟨w2.heap.size, 0, none⟩), .pointer (some ⟨w2.heap.size, 0, none⟩), .int .u64 5] W (Gives W w2.heap.size ((pkW ps : Nat) : Int)) from by
          have h := Lsh_any W w2.heap.size w2.heap.size ((X * 2 + q : Nat) : Int) 5 h1.blk h1 (sm_of_lt (by show X * 2 + q < _; omega)) (by omega)
          rw [show ((X * 2 + q : Nat) : Int) * 2 ^ 5 = ((pkW ps : Nat) : Int) by rw [HW.out]; simp] at h
          exact h)
        have HBR := hid B2.out
        generalize pkW ps = Z at *
        clear hx hqq
        go_wp2_with (first
          | (go_at_call 30; (with_reducible refine KL1.out.mono ?_); rintro e wL ⟨rfl, hI, hG⟩; have IL := hid hI; have BL := hid (below_of_grownBy HB.out hG (Nat.le_refl _)); have PL := hid (Blk.below' P2.out BL.out); clear hI hG)
          | (refine wpList_loadI rfl 38 (.tmp 1) rfl _ 38 ps 25 _ rfl PL.out Tryz.underlying38 rfl size25d HL.out ?_)
          | (go_at_call 33; (with_reducible refine (KP.out wL).mono ?_); rintro e w6 ⟨rfl, hB⟩; have I6 := hid (IL.out.below hB (Nat.le_refl _)); have B6 := hid (BL.out.trans (hB.mono BL.out.size)); clear hB)
          | (go_at_call 32; (with_reducible refine (KA.out w6).mono ?_); rintro e wA ⟨bA, rfl, hbA, hIA, hBA⟩; have IA := hid hIA; have XA := hid (I6.out.below hBA (Nat.le_refl _)); have BA := hid (B6.out.trans (hBA.mono B6.out.size)); clear hIA hBA)
          | (go_at_call 31; (with_reducible refine (KS.out wA bA XA.out IA.out).mono ?_); rintro e wS ⟨rfl, hIS, hGS⟩; have IS := hid hIS; have BS := hid (below_of_grownBy BA.out hGS (Nat.le_refl _)); clear hIS hGS)
          | (go_at_call 30; (with_reducible refine (KL5.out wS IS.out).mono ?_); rintro e wT ⟨rfl, hI, hG⟩; have IT := hid hI; have BT := hid (below_of_grownBy BS.out hG (Nat.le_refl _)); clear hI hG)
          | (at_make; refine wpList_makeB rfl _ _ rfl .i64 .i64 14 rfl rfl wT.heap.size (by omega) (Nat.le_refl _) ?_; intro w7 hO hG; have G7 := hid (OwnB.blk hO (by simp)); have L7 := hid ((Below.refl wT.heap.size wT).grown hG (Nat.le_refl _) (by simp)); have I7 := hid (IT.out.below L7.out (Nat.le_refl _)); have B7 := hid (BT.out.trans (L7.out.mono BT.out.size)); clear hO hG)
          | (go_at_call 34; (with_reducible refine (FillBytes_any w7 w2.heap.size wT.heap.size Z I7.out hW G7.out).mono ?_); rintro e w8 ⟨rfl, hS, hB⟩; have G8 := hid hS; have B8 := hid (B7.out.trans (hB.mono BT.out.size)); clear hS hB)
          | (go_at_call 35; (with_reducible refine (refCheck_any (some ⟨wT.heap.size, 0, none⟩) 14 14 (digL Z) w8 (rb_all G8.out) (digL_len _) (by omega) (digL_byts _)).mono ?_); rintro e w' ⟨rfl, rfl⟩)
          | (at_builtin; refine wpList_catB rfl (.tmp 69) (.tmp 72) rfl wT.heap.size (some ⟨wT.heap.size, 0, none⟩) 14 14 (digL Z) rfl (digL_len _) (ownB_of_blk (Blk.alloc G8.out _) (Nat.le_refl _) (by rw [digL_len]; omega)) _ _ 1 1 [chk (digL Z)] rfl rfl (rb_one (cell_newE rfl) (Nat.lt_succ_self _)) (by omega) (by have := Blk.lt G8.out; rw [World.size_alloc]; omega) ?_; intro A9 c9 w9 hO hG; have O9 := hid hO; have B9 := hid ((B8.out.alloc B8.out.size _).grown hG (by have := B8.out.size; rw [World.size_alloc]; omega) (fun k hk => by cases hk; exact BT.out.size)); clear hO hG))
        go_ret2
        exact ⟨A9, c9, by rw [HER.out, HBY.out, List.length_append, digL_len]; rfl, by rw [HBY.out]; exact O9.out.more (Nat.le_trans HBR.out.size BT.out.size), HBR.out.trans (B9.out.mono HBR.out.size)⟩
  · have hgf : pkTo ps 25 = false := by simpa using hg
    have HBY := hid (show pkBytes ps = [] from if_neg hg)
    have HER := hid (show pkErr ps = 2 from if_neg hg)
    rw [hgf] at KG
    clear hg hgf
    go_enter Tryz.func8, Tryz.ntmps8
    go_wp2_with (first
      | (rw [← HV.out]; clear HV)
      | (refine wpList_loadI rfl 38 (.tmp 1) rfl _ 38 ps 25 _ rfl P0.out Tryz.underlying38 rfl size25d HL.out ?_)
      | (go_at_call 28; (with_reducible refine KG.out.mono ?_); rintro e w1 ⟨rfl, hB⟩; have B1 := hid (B0.out.trans (hB.mono B0.out.size)); clear hB))
    go_ret2
    exact ⟨none, 0, by rw [HBY.out, HER.out]; rfl, by rw [HBY.out]; exact OwnB.nil, B1.out⟩
end Go.Proofs.YthoiikkjjaldnaaGreatDoor

/- The walk of the law CoderDecodes. -/
namespace Go.Proofs.YthoiikkjjaldnaaGreatDoor
set_option linter.unusedVariables false
set_option linter.unusedSimpArgs false
set_option maxRecDepth 100000
open Go.RowKit

/-- append of bytes that read, in a region that draws. -/
theorem wp_catB {o : Oper} {a : Act} {w : World} {K : Act → World → Prop} {Q : Exit → Act → World → Prop} (s x : Operand)
    (ho : o.op = .call { callee := .builtin .append, args := #[s, x], argTypes := #[26, 26] })
    (base : Nat) (A : Option Addr) (c n : Nat) (xs : List Int) (hs : a.eval s = .slice A n c) (hn : xs.length = n) (hown : OwnB w base A c xs)
    (B : Nat) (A2 : Option Addr) (c2 m : Nat) (ys : List Int) (hx : a.eval x = .slice A2 m c2) (hm : ys.length = m) (hr : Rb w B A2 ys) (hlen : n + m ≤ 140737488355328) (hbase : base ≤ w.heap.size)
    (h : ∀ A' c' w', OwnB w' base A' c' (xs ++ ys) → w.grownBy w' (A.map (·.block)) → K (a.put o.dst (.slice A' (n + m) c')) w') : Oper.wp Tryz.prog o a w K Q := by
  subst hn
  subst hm
  obtain ⟨i0, hi, hz0, hz1, hz2⟩ := info_parts infoB
  obtain ⟨v', w', hrun, h2, h3, h4⟩ := run_append_any (P := Tryz.prog) w base 26 o.type 5 i0 (.int .u8 0) 1 1 Tryz.underlying26 hi hz0 hz1 hz2 rfl (by omega) _ _ _ hown B A2 ys.length c2 (bts ys) hr (bts_one ys) (by unfold maxLen; omega) (by omega) hbase
  obtain ⟨A', c', rfl, hO⟩ := own_formB h2 (bts_append xs ys)
  have hl : (xs ++ ys).length = xs.length + ys.length := by simp
  unfold Oper.wp execOp
  simp only [ho, resolve, invoke, builtin, Sem.run_bind, Sem.run_pure, Result.andThen_ok, List.map_toArray, List.map_cons, List.map_nil, hs, hx, hrun]
  rw [hl]
  exact h A' c' w' hO (by cases A <;> exact h3)
theorem z25_unE : unE (pkBytes Z25) = 0 := by decide +kernel
theorem z25_bytes' : (pkBytes Z25).length = 15 := by
  unfold pkBytes
  rw [if_pos z25_good, List.length_append, digL_len]
  rfl
theorem deY_fresh : (deY freshM (pkBytes Z25)).length = 80 := by
  have h : deE freshM (pkBytes Z25) = 0 := by unfold deE; rw [if_pos fresh_good]; exact z25_unE
  unfold deY
  rw [if_pos h, frO_len]
theorem pkBytes_byts' (ps : List Int) : Byts (pkBytes ps) := by
  have hc : 0 ≤ chk (digL (pkW ps)) ∧ chk (digL (pkW ps)) ≤ 255 := by unfold chk; omega
  unfold pkBytes
  split
  · intro i
    rw [List.getD_eq_getElem?_getD]
    by_cases h : i < (digL (pkW ps)).length
    · rw [List.getElem?_append_left h, ← List.getD_eq_getElem?_getD]
      exact digL_byts _ i
    · rw [List.getElem?_append_right (by omega)]
      rcases hk : i - (digL (pkW ps)).length with _ | k
      · simp; omega
      · simp
  · exact fun i => by simp
theorem storedM (w : World) (mm : Mm) : MB ((w.alloc (.cells Tryz.zeroCells25 25)).setRow w.heap.size mm.ag) w.heap.size mm := (newzero w).setRow mm
/-- What stands through the law: the memory's box, the bytes that came in, the tables. -/
structure LB (w W : World) (m : Mm) (A : Option Addr) (xs : List Int) : Prop where
  J : MB W w.heap.size m
  X : Rb W w.heap.size A xs
  a1 : TabA W 4 rootsL
  a2 : TabA W 2 gainsL
  a3 : TabA W 3 widthL
  s1 : TabS W 5 rootsL
  s2 : TabS W 1 gainsL
  s3 : TabS W 0 widthL
  B : Below w.heap.size w W
/-- What holds where the law began. -/
structure LT (w : World) (A : Option Addr) (xs : List Int) : Prop where
  X : Rb w w.heap.size A xs
  a1 : TabA w 4 rootsL
  a2 : TabA w 2 gainsL
  a3 : TabA w 3 widthL
  s1 : TabS w 5 rootsL
  s2 : TabS w 1 gainsL
  s3 : TabS w 0 widthL
theorem LT.lb {w W : World} {m : Mm} {A : Option Addr} {xs : List Int} (s : LT w A xs) (hJ : MB W w.heap.size m) (hB : Below w.heap.size w W) : LB w W m A xs :=
  ⟨hJ, s.X.below hB, s.a1.below hB, s.a2.below hB, s.a3.below hB, s.s1.below hB, s.s2.below hB, s.s3.below hB, hB⟩
theorem LB.below {w W W' : World} {m : Mm} {A : Option Addr} {xs : List Int} (t : LT w A xs) (s : LB w W m A xs) (hb : Below W.heap.size W W') : LB w W' m A xs := t.lb (Blk.below' s.J hb) (s.B.trans (hb.mono s.B.size))
theorem LB.set {w W : World} {m : Mm} {A : Option Addr} {xs : List Int} (t : LT w A xs) (s : LB w W m A xs) {g : Nat} (hg : w.heap.size < g) (cs : Array Value) : LB w (W.setRow g cs) m A xs := t.lb (Blk.rowFar s.J (by omega)) (below_setRow s.B (by omega) cs)
theorem LB.setC {w W : World} {m : Mm} {A : Option Addr} {xs : List Int} (t : LT w A xs) (s : LB w W m A xs) {g : Nat} (hg : w.heap.size < g) (vs : List Value) (o : Nat) : LB w (W.setCells g o vs) m A xs := t.lb (blk_sc (by omega) vs o _ s.J) (below_sc (by omega) vs o _ s.B)
theorem MB.setAll {W : World} {g : Nat} {mm : Mm} (h : MB W g zeroM) (k : mm.ok) : MB (W.setCells g 0 mm.cs) g mm := by
  have h0 : Blk W g 25 ([] ++ (zeroM.cs ++ [])).toArray := by rw [List.nil_append, List.append_nil]; exact h
  have h1 := blk_setCells mm.cs zeroM.cs [] [] W h0 (by rw [mm.len k, zeroM.len zeroM_ok])
  rw [List.nil_append, List.append_nil] at h1
  exact h1
theorem size_setCells (g : Nat) : ∀ (vs : List Value) (o : Nat) (W : World), (W.setCells g o vs).heap.size = W.heap.size
  | [], _, _ => rfl
  | v :: vs, o, W => by
    rw [World.setCells, size_setCells g vs (o + 1)]
    simp [World.setCell]
theorem LB.lt {w W : World} {m : Mm} {A : Option Addr} {xs : List Int} (s : LB w W m A xs) : w.heap.size < W.heap.size := Blk.lt s.J

theorem lb_step {w W W' : World} {m mm : Mm} {A A1 : Option Addr} {xs Y : List Int} {gx : Nat} (t : LT w A xs) (L : LB w W m A xs) (M : MB W gx mm) (R : Rs W W.heap.size A1 Y) (hb : Below W.heap.size W W') : Hid (LB w W' m A xs ∧ MB W' gx mm ∧ Rs W' W'.heap.size A1 Y) :=
  hid ⟨LB.below t L hb, Blk.below' M hb, (R.below hb).more hb.size⟩
set_option maxHeartbeats 8000000 in
theorem walkCoderDecodes (w : World) (a1 : TabA w 4 rootsL) (a2 : TabA w 2 gainsL) (a3 : TabA w 3 widthL) (s2 : TabS w 5 rootsL) (s3 : TabS w 0 widthL) (s1 : TabS w 1 gainsL)
    (m : Mm) (k : m.ok) (hw64 : W64 m.nums) (A : Option Addr) (c : Nat) (xs : List Int) (hr : Rb w w.heap.size A xs) (hx : Byts xs) (hl : xs.length ≤ c) (hc : c ≤ 140737488351232) :
    Calls Tryz.prog 3 #[.agg m.ag, .slice A xs.length c] w fun e w' => e = .returned (.bool true) ∧ Below w.heap.size w w' := by
  have T := hid (show LT w A xs from ⟨hr, a1, a2, a3, s2, s1, s3⟩)
  have S0 := hid (T.out.lb (MB.new w m) ((Below.refl _ w).alloc (Nat.le_refl _) (.cells m.ag 25)))
  have KD := hid (fun W (h : LB w W m A xs) A1 c1 (hr : Rb W W.heap.size A1 xs) (hc : xs.length ≤ c1) => show Calls Tryz.prog 6 #[.agg m.cs.toArray, .slice A1 xs.length c1] W (NewM W (deM m xs) (deY m xs) (deE m xs)) from decode_any m k A1 c1 xs.length xs W h.a1 h.a2 h.a3 hr rfl hc hx)
  have KR := hid (fun W (h : LB w W m A xs) => refDecode_any m k hw64 A c xs.length xs W h.s1 h.s2 h.s3 (h.X.more h.B.size) rfl hl hx)
  have KP := hid (fun W (h : LB w W m A xs) => show Calls Tryz.prog 8 #[.agg #[.int .i64 0, .int .i64 0, .int .i64 0, .int .i64 0, .int .i64 0, .int .i64 0, .int .i64 0, .int .i64 0, .int .i64 0, .int .i64 0, .int .i64 0, .int .i64 0, .int .i64 0, .int .i64 0, .int .i64 0, .int .i64 0, .int .i64 0, .int .i64 0, .int .i64 0, .int .i64 0, .int .i64 0, .int .i64 0, .int .i64 0, .int .i64 0, .int .i64 0]] W (fun e w' => ∃ A c, e = .returned (.tuple #[.slice A 15 c, .int .i64 (pkErr Z25)]) ∧ OwnB w' W.heap.size A c (pkBytes Z25) ∧ Below W.heap.size W w') from
    (refPack_any Z25 W h.s3 z25_len (fun x hx => by rw [List.eq_of_mem_replicate hx]; omega)).mono fun e w' ⟨A, c, h1, h2, h3⟩ => ⟨A, c, by rw [h1, z25_bytes'], h2, h3⟩)
  have KFr := hid (fun W => refFresh_any W)
  have K4 := hid (fun W (h : LB w W m A xs) A4 c4 B (hO : OwnB W B A4 c4 (pkBytes Z25)) => show Calls Tryz.prog 6 #[.agg freshM.ag, .slice A4 15 c4] W (NewM W (deM freshM (pkBytes Z25)) (deY freshM (pkBytes Z25)) (deE freshM (pkBytes Z25))) from
    decode_any freshM freshM_ok A4 c4 15 (pkBytes Z25) W h.a1 h.a2 h.a3 hO.reads z25_bytes' (by have := hO.cap.1; rw [z25_bytes'] at this; exact this) (pkBytes_byts' _))
  have HYF := hid deY_fresh
  have OKF := hid (deM_ok freshM_ok (pkBytes Z25))
  generalize deM freshM (pkBytes Z25) = mf at *
  generalize deY freshM (pkBytes Z25) = YF at *
  generalize deE freshM (pkBytes Z25) = ef at *
  generalize pkErr Z25 = ep at *
  generalize pkBytes Z25 = bs at *
  have K := hid k
  have OKD := hid (deM_ok k xs)
  have YD := hid (deY_len m xs)
  have heq := fun w => run_eql_mem (deM m xs) (deM_ok k xs) w
  obtain ⟨n, hn⟩ : ∃ n, n = xs.length := ⟨_, rfl⟩
  rw [← hn] at KD KR hl ⊢
  have HN := hid hn.symm
  have HL := hid hl
  have HC := hid hc
  generalize deM m xs = mm at *
  generalize deY m xs = Y at *
  generalize deE m xs = er at *
  clear a1 a2 a3 s1 s2 s3 hr hx hl hc hn k hw64
  go_enter Tryz.func3, Tryz.ntmps3
  go_upto_region 1 with fail
  go_cut [5, 6, 7] (fun s5 s6 s7 wx => ∃ (gx : Nat) (A1 : Option Addr) (c1 : Nat), s5 = .pointer (some ⟨gx, 0, none⟩) ∧ s6 = .slice A1 Y.length c1 ∧ s7 = .int .i64 er ∧ Hid (LB w wx m A xs) ∧ Hid (MB wx gx mm) ∧ Hid (Rs wx wx.heap.size A1 Y))
  case first =>
    refine wp_region_held (S := fun W => LB w W m A xs) (by kernel_rfl) ?_
    have S1 := hid (LB.below T.out S0.out ((Below.refl _ _).drew))
    change wpAnyH _ _ _ _ _ _ _ _ (World.drew _)
    obtain ⟨V, hV⟩ : ∃ V, V = (w.alloc (.cells m.ag 25)).drew := ⟨_, rfl⟩
    rw [← hV] at S1 ⊢
    clear hV S0
    refine wpAnyH_take (i := 0) (v := .agg m.cs.toArray) rfl (by kernel_rfl) (by kernel_rfl) (by kernel_rfl) (fun _ _ _ h => h) (yieldsIf_load_mid (by rfl) 25 (.tmp 2) rfl w.heap.size 0 rfl m.cs _ (fun W hW => MB.whole hW.J) Tryz.underlying25 rfl (by rw [sizeM, m.len K.out])) S1.out ?_
    refine wpAnyH_take (i := 1) (v := .slice A n c) rfl (by kernel_rfl) (by kernel_rfl) (by kernel_rfl) (fun _ _ _ h => h) (.inl ⟨by rfl, fun W hW => by (first | rfl | go_simp)⟩) S1.out ?_
    refine wpAnyH_ready (rs := [2, 8]) (by kernel_rfl) (by simp) (AllReadyH.cons rfl (fun K hK => ?_) (AllReadyH.cons rfl (fun K hK => ?_) AllReadyH.nil))
    ·
      rw [if_pos (by rfl)]
      simp only [Act.put, List.setIfInBounds_toArray, List.set_cons_zero, List.set_cons_succ, List.getElem_toArray, List.getElem_cons_succ, List.getElem_cons_zero]
      refine wp_catB (.const (.slice none 0 0)) (.tmp 18) rfl w.heap.size none 0 0 [] rfl rfl OwnB.nil w.heap.size A c n xs rfl HN.out S1.out.X (by have := HL.out; have := HC.out; omega) (Nat.le_trans S1.out.B.size (Nat.le_refl _)) ?_
      intro A1 c1 W2 hO hG
      have O2 := hid (show OwnB W2 w.heap.size A1 c1 xs from hO)
      have Q2 := hid (show Below V.heap.size V W2 from (Below.refl _ _).grown hG (Nat.le_refl _) (by simp))
      have L2 := hid (LB.below T.out S1.out Q2.out)
      rw [Nat.zero_add]
      clear hO hG
      refine hK.out _ _ L2.out (fun _ => ?_)
      clear hK K
      refine wpAnyH_ready (rs := [3, 8]) (by kernel_rfl) (by simp) (AllReadyH.cons rfl (fun K hK => ?_) (AllReadyH.cons rfl (fun K hK => ?_) AllReadyH.nil))
      ·
        go_simp
        with_reducible refine (KD.out W2 L2.out A1 c1 O2.out.reads (by have := O2.out.cap.1; rw [HN.out] at this; exact this)).mono ?_
        rintro e W3 ⟨A2, c2, rfl, hO, hB⟩
        have L3 := hid (LB.below T.out L2.out hB)
        have P3 := hid hO
        have Q3 := hid hB
        clear hO hB
        go_simp
        refine hK.out _ _ L3.out (fun _ => ?_)
        clear hK K
        refine wpAnyH_take (i := 4) (v := .tuple #[.agg mm.ag, .slice A2 Y.length c2, .int .i64 er]) rfl (by kernel_rfl) (by kernel_rfl) (by kernel_rfl) (fun _ _ _ h => h) (.inl ⟨by rfl, fun W hW => by (first | rfl | go_simp)⟩) L3.out ?_
        refine wpAnyH_take (i := 5) (v := .agg mm.ag) rfl (by kernel_rfl) (by kernel_rfl) (by kernel_rfl) (fun _ _ _ h => h) (.inl ⟨by rfl, fun W hW => by (first | rfl | go_simp)⟩) L3.out ?_
        refine wpAnyH_take (i := 6) (v := .slice A2 Y.length c2) rfl (by kernel_rfl) (by kernel_rfl) (by kernel_rfl) (fun _ _ _ h => h) (.inl ⟨by rfl, fun W hW => by (first | rfl | go_simp)⟩) L3.out ?_
        refine wpAnyH_take (i := 7) (v := .int .i64 er) rfl (by kernel_rfl) (by kernel_rfl) (by kernel_rfl) (fun _ _ _ h => h) (.inl ⟨by rfl, fun W hW => by (first | rfl | go_simp)⟩) L3.out ?_
        refine wpAnyH_ready (rs := [8]) (by kernel_rfl) (by simp) (AllReadyH.cons rfl (fun K hK => ?_) AllReadyH.nil)
        go_simp
        have L4 := hid (LB.below T.out L3.out ((Below.refl _ _).alloc (Nat.le_refl _) (.cells Tryz.zeroCells25 25)))
        have Z4 := hid (newzero W3)
        obtain ⟨W4, hW4⟩ : ∃ W4, W4 = W3.alloc (.cells Tryz.zeroCells25 25) := ⟨_, rfl⟩
        have Q4 := hid (show Below W3.heap.size W3 W4 from by rw [hW4]; exact (Below.refl _ _).alloc (Nat.le_refl _) _)
        rw [← hW4] at L4 Z4 ⊢
        clear hW4
        obtain ⟨gx, hgx⟩ : ∃ gx, gx = W3.heap.size := ⟨_, rfl⟩
        have GX := hid (show w.heap.size < gx from by rw [hgx]; exact L3.out.lt)
        have GE := hid hgx
        rw [← hgx] at Z4 ⊢
        clear hgx
        refine hK.out _ _ L4.out (fun _ => ?_)
        clear hK K
        refine wpAnyH_ready (rs := [9]) (by kernel_rfl) (by simp) (AllReadyH.cons rfl (fun K hK => ?_) AllReadyH.nil)
        rw [if_pos (by rfl)]
        simp only [Act.put, List.setIfInBounds_toArray, List.set_cons_zero, List.set_cons_succ, List.getElem_toArray, List.getElem_cons_succ, List.getElem_cons_zero]
        refine wp_store_mid 25 (.tmp 5) (.tmp 21) rfl gx 0 mm.ag rfl rfl (by rw [mm.size OKD.out]; exact MB.there Z4.out zeroM_ok) (by rw [sizeM, mm.size OKD.out]) mm.one ?_
        rw [show mm.ag.toList = mm.cs from rfl]
        have LF := hid (LB.setC T.out L4.out GX.out mm.cs 0)
        have MF := hid (MB.setAll Z4.out OKD.out)
        have RF := hid (show Rs (W4.setCells gx 0 mm.cs) (W4.setCells gx 0 mm.cs).heap.size A2 Y from Rs.more (Rs.below P3.out.reads (show Below W3.heap.size W3 (W4.setCells gx 0 mm.cs) from below_sc (by rw [GE.out]; exact Nat.le_refl _) _ _ _ Q4.out)) (Nat.le_trans Q4.out.size (by rw [size_setCells]; exact Nat.le_refl _)))
        obtain ⟨WF, hWF⟩ : ∃ WF, WF = W4.setCells gx 0 mm.cs := ⟨_, rfl⟩
        rw [← hWF] at LF MF RF ⊢
        clear hWF
        refine hK.out _ _ LF.out (fun _ => ?_)
        clear hK K
        refine wpAnyH_take (i := 10) (v := .slice A2 Y.length c2) rfl (by kernel_rfl) (by kernel_rfl) (by kernel_rfl) (fun _ _ _ h => h) (.inl ⟨by rfl, fun W hW => by (first | rfl | go_simp)⟩) LF.out ?_
        refine wpAnyH_take (i := 11) (v := .int .i64 er) rfl (by kernel_rfl) (by kernel_rfl) (by kernel_rfl) (fun _ _ _ h => h) (.inl ⟨by rfl, fun W hW => by (first | rfl | go_simp)⟩) LF.out ?_
        refine wpAnyH_done (by kernel_rfl) ?_ _
        go_wp2_with fail
        go_meet
        exact ⟨gx, A2, c2, rfl, rfl, rfl, LF, MF, RF⟩
      ·
        go_simp
        have L3 := hid (LB.below T.out L2.out ((Below.refl _ _).alloc (Nat.le_refl _) (.cells Tryz.zeroCells25 25)))
        have Z3 := hid (newzero W2)
        obtain ⟨W3, hW3⟩ : ∃ W3, W3 = W2.alloc (.cells Tryz.zeroCells25 25) := ⟨_, rfl⟩
        have Q3 := hid (show Below W2.heap.size W2 W3 from by rw [hW3]; exact (Below.refl _ _).alloc (Nat.le_refl _) _)
        rw [← hW3] at L3 Z3 ⊢
        clear hW3
        obtain ⟨gx, hgx⟩ : ∃ gx, gx = W2.heap.size := ⟨_, rfl⟩
        have GX := hid (show w.heap.size < gx from by rw [hgx]; exact L2.out.lt)
        have GE := hid hgx
        rw [← hgx] at Z3 ⊢
        clear hgx
        refine hK.out _ _ L3.out (fun _ => ?_)
        clear hK K
        refine wpAnyH_ready (rs := [3]) (by kernel_rfl) (by simp) (AllReadyH.cons rfl (fun K hK => ?_) AllReadyH.nil)
        have O3 := hid (O2.out.below Q3.out)
        go_simp
        with_reducible refine (KD.out W3 L3.out A1 c1 O3.out.reads (by have := O3.out.cap.1; rw [HN.out] at this; exact this)).mono ?_
        rintro e W4 ⟨A2, c2, rfl, hO, hB⟩
        have L4 := hid (LB.below T.out L3.out hB)
        have P4 := hid hO
        have Q4 := hid hB
        clear hO hB
        go_simp
        refine hK.out _ _ L4.out (fun _ => ?_)
        clear hK K
        refine wpAnyH_take (i := 4) (v := .tuple #[.agg mm.ag, .slice A2 Y.length c2, .int .i64 er]) rfl (by kernel_rfl) (by kernel_rfl) (by kernel_rfl) (fun _ _ _ h => h) (.inl ⟨by rfl, fun W hW => by (first | rfl | go_simp)⟩) L4.out ?_
        refine wpAnyH_take (i := 5) (v := .agg mm.ag) rfl (by kernel_rfl) (by kernel_rfl) (by kernel_rfl) (fun _ _ _ h => h) (.inl ⟨by rfl, fun W hW => by (first | rfl | go_simp)⟩) L4.out ?_
        refine wpAnyH_take (i := 6) (v := .slice A2 Y.length c2) rfl (by kernel_rfl) (by kernel_rfl) (by kernel_rfl) (fun _ _ _ h => h) (.inl ⟨by rfl, fun W hW => by (first | rfl | go_simp)⟩) L4.out ?_
        refine wpAnyH_take (i := 7) (v := .int .i64 er) rfl (by kernel_rfl) (by kernel_rfl) (by kernel_rfl) (fun _ _ _ h => h) (.inl ⟨by rfl, fun W hW => by (first | rfl | go_simp)⟩) L4.out ?_
        have Z4 := hid (Blk.below' Z3.out Q4.out)
        refine wpAnyH_ready (rs := [9]) (by kernel_rfl) (by simp) (AllReadyH.cons rfl (fun K hK => ?_) AllReadyH.nil)
        rw [if_pos (by rfl)]
        simp only [Act.put, List.setIfInBounds_toArray, List.set_cons_zero, List.set_cons_succ, List.getElem_toArray, List.getElem_cons_succ, List.getElem_cons_zero]
        refine wp_store_mid 25 (.tmp 5) (.tmp 21) rfl gx 0 mm.ag rfl rfl (by rw [mm.size OKD.out]; exact MB.there Z4.out zeroM_ok) (by rw [sizeM, mm.size OKD.out]) mm.one ?_
        rw [show mm.ag.toList = mm.cs from rfl]
        have LF := hid (LB.setC T.out L4.out GX.out mm.cs 0)
        have MF := hid (MB.setAll Z4.out OKD.out)
        have RF := hid (show Rs (W4.setCells gx 0 mm.cs) (W4.setCells gx 0 mm.cs).heap.size A2 Y from (Own.setCs (g := gx) (Blk.lt Z3.out) mm.cs 0 _ P4.out).reads)
        obtain ⟨WF, hWF⟩ : ∃ WF, WF = W4.setCells gx 0 mm.cs := ⟨_, rfl⟩
        rw [← hWF] at LF MF RF ⊢
        clear hWF
        refine hK.out _ _ LF.out (fun _ => ?_)
        clear hK K
        refine wpAnyH_take (i := 10) (v := .slice A2 Y.length c2) rfl (by kernel_rfl) (by kernel_rfl) (by kernel_rfl) (fun _ _ _ h => h) (.inl ⟨by rfl, fun W hW => by (first | rfl | go_simp)⟩) LF.out ?_
        refine wpAnyH_take (i := 11) (v := .int .i64 er) rfl (by kernel_rfl) (by kernel_rfl) (by kernel_rfl) (fun _ _ _ h => h) (.inl ⟨by rfl, fun W hW => by (first | rfl | go_simp)⟩) LF.out ?_
        refine wpAnyH_done (by kernel_rfl) ?_ _
        go_wp2_with fail
        go_meet
        exact ⟨gx, A2, c2, rfl, rfl, rfl, LF, MF, RF⟩
    ·
      go_simp
      have L2 := hid (LB.below T.out S1.out ((Below.refl _ _).alloc (Nat.le_refl _) (.cells Tryz.zeroCells25 25)))
      have Z2 := hid (newzero V)
      obtain ⟨W2, hW2⟩ : ∃ W2, W2 = V.alloc (.cells Tryz.zeroCells25 25) := ⟨_, rfl⟩
      have Q2 := hid (show Below V.heap.size V W2 from by rw [hW2]; exact (Below.refl _ _).alloc (Nat.le_refl _) _)
      rw [← hW2] at L2 Z2 ⊢
      clear hW2
      obtain ⟨gx, hgx⟩ : ∃ gx, gx = V.heap.size := ⟨_, rfl⟩
      have GX := hid (show w.heap.size < gx from by rw [hgx]; exact S1.out.lt)
      have GE := hid hgx
      rw [← hgx] at Z2 ⊢
      clear hgx
      refine hK.out _ _ L2.out (fun _ => ?_)
      clear hK K
      refine wpAnyH_ready (rs := [2]) (by kernel_rfl) (by simp) (AllReadyH.cons rfl (fun K hK => ?_) AllReadyH.nil)
      rw [if_pos (by rfl)]
      simp only [Act.put, List.setIfInBounds_toArray, List.set_cons_zero, List.set_cons_succ, List.getElem_toArray, List.getElem_cons_succ, List.getElem_cons_zero]
      refine wp_catB (.const (.slice none 0 0)) (.tmp 18) rfl w.heap.size none 0 0 [] rfl rfl OwnB.nil w.heap.size A c n xs rfl HN.out L2.out.X (by have := HL.out; have := HC.out; omega) (Nat.le_trans L2.out.B.size (Nat.le_refl _)) ?_
      intro A1 c1 W3 hO hG
      have O3 := hid (show OwnB W3 w.heap.size A1 c1 xs from hO)
      have Q3 := hid (show Below W2.heap.size W2 W3 from (Below.refl _ _).grown hG (Nat.le_refl _) (by simp))
      have L3 := hid (LB.below T.out L2.out Q3.out)
      rw [Nat.zero_add]
      clear hO hG
      refine hK.out _ _ L3.out (fun _ => ?_)
      clear hK K
      have Z3 := hid (Blk.below' Z2.out Q3.out)
      refine wpAnyH_ready (rs := [3]) (by kernel_rfl) (by simp) (AllReadyH.cons rfl (fun K hK => ?_) AllReadyH.nil)
      go_simp
      with_reducible refine (KD.out W3 L3.out A1 c1 O3.out.reads (by have := O3.out.cap.1; rw [HN.out] at this; exact this)).mono ?_
      rintro e W4 ⟨A2, c2, rfl, hO, hB⟩
      have L4 := hid (LB.below T.out L3.out hB)
      have P4 := hid hO
      have Q4 := hid hB
      clear hO hB
      go_simp
      refine hK.out _ _ L4.out (fun _ => ?_)
      clear hK K
      refine wpAnyH_take (i := 4) (v := .tuple #[.agg mm.ag, .slice A2 Y.length c2, .int .i64 er]) rfl (by kernel_rfl) (by kernel_rfl) (by kernel_rfl) (fun _ _ _ h => h) (.inl ⟨by rfl, fun W hW => by (first | rfl | go_simp)⟩) L4.out ?_
      refine wpAnyH_take (i := 5) (v := .agg mm.ag) rfl (by kernel_rfl) (by kernel_rfl) (by kernel_rfl) (fun _ _ _ h => h) (.inl ⟨by rfl, fun W hW => by (first | rfl | go_simp)⟩) L4.out ?_
      refine wpAnyH_take (i := 6) (v := .slice A2 Y.length c2) rfl (by kernel_rfl) (by kernel_rfl) (by kernel_rfl) (fun _ _ _ h => h) (.inl ⟨by rfl, fun W hW => by (first | rfl | go_simp)⟩) L4.out ?_
      refine wpAnyH_take (i := 7) (v := .int .i64 er) rfl (by kernel_rfl) (by kernel_rfl) (by kernel_rfl) (fun _ _ _ h => h) (.inl ⟨by rfl, fun W hW => by (first | rfl | go_simp)⟩) L4.out ?_
      have Z4 := hid (Blk.below' Z3.out Q4.out)
      refine wpAnyH_ready (rs := [9]) (by kernel_rfl) (by simp) (AllReadyH.cons rfl (fun K hK => ?_) AllReadyH.nil)
      rw [if_pos (by rfl)]
      simp only [Act.put, List.setIfInBounds_toArray, List.set_cons_zero, List.set_cons_succ, List.getElem_toArray, List.getElem_cons_succ, List.getElem_cons_zero]
      refine wp_store_mid 25 (.tmp 5) (.tmp 21) rfl gx 0 mm.ag rfl rfl (by rw [mm.size OKD.out]; exact MB.there Z4.out zeroM_ok) (by rw [sizeM, mm.size OKD.out]) mm.one ?_
      rw [show mm.ag.toList = mm.cs from rfl]
      have LF := hid (LB.setC T.out L4.out GX.out mm.cs 0)
      have MF := hid (MB.setAll Z4.out OKD.out)
      have RF := hid (show Rs (W4.setCells gx 0 mm.cs) (W4.setCells gx 0 mm.cs).heap.size A2 Y from (Own.setCs (g := gx) (Blk.lt Z3.out) mm.cs 0 _ P4.out).reads)
      obtain ⟨WF, hWF⟩ : ∃ WF, WF = W4.setCells gx 0 mm.cs := ⟨_, rfl⟩
      rw [← hWF] at LF MF RF ⊢
      clear hWF
      refine hK.out _ _ LF.out (fun _ => ?_)
      clear hK K
      refine wpAnyH_take (i := 10) (v := .slice A2 Y.length c2) rfl (by kernel_rfl) (by kernel_rfl) (by kernel_rfl) (fun _ _ _ h => h) (.inl ⟨by rfl, fun W hW => by (first | rfl | go_simp)⟩) LF.out ?_
      refine wpAnyH_take (i := 11) (v := .int .i64 er) rfl (by kernel_rfl) (by kernel_rfl) (by kernel_rfl) (fun _ _ _ h => h) (.inl ⟨by rfl, fun W hW => by (first | rfl | go_simp)⟩) LF.out ?_
      refine wpAnyH_done (by kernel_rfl) ?_ _
      go_wp2_with fail
      go_meet
      exact ⟨gx, A2, c2, rfl, rfl, rfl, LF, MF, RF⟩
  case rest =>
    obtain ⟨gx, A1, c1, rfl, rfl, rfl, L1, M1, R1⟩ := hcut
    clear S0 KD
    go_wp2_with (first
      | (refine wpList_loadM rfl (.tmp 2) rfl _ m rfl L1.out.J K.out ?_)
      | (go_at_call 7; (with_reducible refine (KR.out wc L1.out).mono ?_); rintro e w2 ⟨A2, c2, rfl, hO, hB⟩; have F2 := lb_step T.out L1.out M1.out R1.out hB; have R2 := hid hO.reads; clear hO hB)
      | (refine wpList_storeM rfl (.tmp 8) (.tmp 28) rfl _ zeroM mm rfl rfl (newzero w2) zeroM_ok OKD.out ?_
         have B2 := below_stored w2 (.cells Tryz.zeroCells25 25) mm.ag
         obtain ⟨V2, hV⟩ : ∃ V, V = (w2.alloc (.cells Tryz.zeroCells25 25)).setRow w2.heap.size mm.ag := ⟨_, rfl⟩
         have F3 := hid (show LB w V2 m A xs ∧ MB V2 gx mm ∧ Rs V2 V2.heap.size A1 Y from by rw [hV]; exact (lb_step T.out F2.out.1 F2.out.2.1 F2.out.2.2 B2).out)
         have G3 := hid (show MB V2 w2.heap.size mm ∧ Rs V2 V2.heap.size A2 Y from by rw [hV]; exact ⟨storedM w2 mm, (R2.out.below B2).more B2.size⟩)
         rw [← hV]
         clear hV B2)
      | (go_at_call 8; (with_reducible refine (KP.out V2 F3.out.1).mono ?_); rintro e w4 ⟨A4, c4, rfl, hO, hB⟩; have F4 := lb_step T.out F3.out.1 F3.out.2.1 F3.out.2.2 hB; have G4 := lb_step T.out F3.out.1 G3.out.1 G3.out.2 hB; have O4 := hid hO; clear hO hB)
      | (go_at_call 9; (with_reducible refine (KFr.out w4).mono ?_); rintro e w5 ⟨rfl, hB⟩; have F5 := lb_step T.out F4.out.1 F4.out.2.1 F4.out.2.2 hB; have G5 := lb_step T.out F4.out.1 G4.out.2.1 G4.out.2.2 hB; have O5 := hid (O4.out.below hB); clear hB)
      | (go_at_call 6; (with_reducible refine (K4.out w5 F5.out.1 A4 c4 _ O5.out).mono ?_); rintro e w6 ⟨A6, c6, rfl, hO, hB⟩; have F6 := lb_step T.out F5.out.1 F5.out.2.1 F5.out.2.2 hB; have G6 := lb_step T.out F5.out.1 G5.out.2.1 G5.out.2.2 hB; clear hO hB; rw [HYF.out])
      | (refine wpList_storeM rfl (.tmp 13) (.tmp 40) rfl _ zeroM mf rfl rfl (newzero w6) zeroM_ok OKF.out ?_
         have B6 := below_stored w6 (.cells Tryz.zeroCells25 25) mf.ag
         obtain ⟨V7, hV⟩ : ∃ V, V = (w6.alloc (.cells Tryz.zeroCells25 25)).setRow w6.heap.size mf.ag := ⟨_, rfl⟩
         have F7 := hid (show LB w V7 m A xs ∧ MB V7 gx mm ∧ Rs V7 V7.heap.size A1 Y from by rw [hV]; exact (lb_step T.out F6.out.1 F6.out.2.1 F6.out.2.2 B6).out)
         have G7 := hid (show LB w V7 m A xs ∧ MB V7 w2.heap.size mm ∧ Rs V7 V7.heap.size A2 Y from by rw [hV]; exact (lb_step T.out F6.out.1 G6.out.2.1 G6.out.2.2 B6).out)
         rw [← hV]
         clear hV B6)
      | (refine wpList_loadM rfl (.tmp 5) rfl _ mm rfl F7.out.2.1 OKD.out ?_)
      | (refine wpList_loadM rfl (.tmp 8) rfl _ mm rfl G7.out.2.1 OKD.out ?_)
      | (go_at_call 10; (with_reducible refine (Same_yes A1 A2 c1 c2 Y.length _ _ Y _ F7.out.2.2 G7.out.2.2 rfl (by have := YD.out; omega)).mono ?_); rintro e w8 ⟨rfl, hB⟩; have F8 := hid (F7.out.1.B.trans (hB.mono F7.out.1.B.size)); clear hB))
    go_ret
    exact ⟨by simp, F8.out⟩
end Go.Proofs.YthoiikkjjaldnaaGreatDoor
