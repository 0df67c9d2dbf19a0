/- The walk of the law SynthMakes. -/
import Derived.Test.YthajpmilccpgeaaHeld
import Derived.Test.YthajpmilccpgeaaMakeR
import Derived.Test.YthajpmilccpgeaaUndoR
import Derived.Test.YthajpmilccpgeaaEqA
namespace Go.Proofs.Ythajpmilccpgeaa
set_option linter.unusedVariables false
set_option linter.unusedSimpArgs false
set_option maxRecDepth 100000
open Go.RowKit

/-- Behind the program's call: both boxes, the answer's past, the answer's samples. -/
structure SLx (w V : World) (a p q Y : List Int) (A : Option Addr) (g : Nat) : Prop where
  I : IB V w.heap.size 37 a
  J : IB V (w.heap.size + 1) 33 p
  Q : IB V g 33 q
  R : Rs V V.heap.size A Y
  B : Below w.heap.size w V
theorem SLx.below {w V V' : World} {a p q Y : List Int} {A : Option Addr} {g : Nat} (h : SLx w V a p q Y A g) (hb : Below V.heap.size V V') : SLx w V' a p q Y A g :=
  ⟨Blk.below' h.I hb, Blk.below' h.J hb, Blk.below' h.Q hb, (h.R.below hb).more hb.size, h.B.trans (hb.mono h.B.size)⟩

theorem make5_any (W : World) (g : Nat) (hg : g < W.heap.size) (h5 : W.cell? ⟨g, 0, none⟩ = some (.int .i64 5)) :
    Calls Try.prog 35 #[.agg #[Value.int .i64 4096, Value.int .i64 0, Value.int .i64 0, Value.int .i64 0, Value.int .i64 0, Value.int .i64 0, Value.int .i64 0, Value.int .i64 0, Value.int .i64 0], .agg #[Value.int .i64 0, Value.int .i64 0, Value.int .i64 0, Value.int .i64 0, Value.int .i64 0, Value.int .i64 0, Value.int .i64 0, Value.int .i64 0], .slice (some ⟨g, 0, none⟩) 1 1] W (fun e w' => ∃ A3 c3 q er, q.length = 8 ∧ e = .returned (.tuple #[.slice A3 1 c3, .agg (agi q), .int .i64 er]) ∧ Below W.heap.size W w') := by
  have hR : Rs W W.heap.size (some ⟨g, 0, none⟩) [5] := ⟨rfl, fun _ => ⟨_, rfl, hg, fun j u hu => by
    rcases j with _ | j
    · rw [add_zero', ← Option.some_inj.1 hu]; exact h5
    · simp [ints] at hu⟩⟩
  refine (synthMake_any [4096, 0, 0, 0, 0, 0, 0, 0, 0] Z8 [5] (some ⟨g, 0, none⟩) 1 1 W rfl rfl hR rfl (by omega)).mono ?_
  rintro e w' ⟨A3, c3, h1, _, h3⟩
  have hgood : goodF [4096, 0, 0, 0, 0, 0, 0, 0, 0] Z8 [5] = true := by decide
  rw [hgood, if_pos rfl, if_pos rfl] at h1
  rw [makeN_len] at h1
  exact ⟨A3, c3, _, _, newL_len _ _ rfl, h1, h3⟩

set_option maxHeartbeats 4000000 in
theorem walkSynthMakes (w : World) (a : List Int) (ha : a.length = 9) (_ : W64 a) (p : List Int) (hp : p.length = 8) (_ : W64 p) (A : Option Addr) (c : Nat) (xs : List Int) (hr : Rs w w.heap.size A xs) (_ : W64 xs) (hl : xs.length ≤ c) (hc : c * 8 ≤ 140737488351232) :
    Calls Try.prog 12 #[.agg (agi a), .agg (agi p), .slice A xs.length c] w fun e w' => e = .returned (.bool true) ∧ Below w.heap.size w w' := by
  obtain ⟨n, hn⟩ : ∃ n, xs.length = n := ⟨_, rfl⟩
  obtain ⟨Y, hY⟩ : ∃ Y, Y = (if goodF a p xs then makeN a p xs n else []) := ⟨_, rfl⟩
  obtain ⟨q, hq⟩ : ∃ q, q = (if goodF a p xs then newL p (makeN a p xs n) else Z8) := ⟨_, rfl⟩
  obtain ⟨er, her⟩ : ∃ er, er = errOf (goodF a p xs) := ⟨_, rfl⟩
  have hql : q.length = 8 := by rw [hq]; split; exact newL_len _ _ hp; rfl
  have K1 := fun W A1 c1 (h : Rs W W.heap.size A1 xs) => synthMake_any a p xs A1 c1 n W ha hp h hn (by omega)
  have K2 := fun W (h : Rs W W.heap.size A xs) => refMake_any a p xs A c n W ha hp h hn (by omega) (by omega)
  have KI : ∀ W, Rs W W.heap.size A xs → Calls Try.prog 31 #[.slice A n c] W (fun e w' => ∃ A1 c1, e = .returned (.slice A1 n c1) ∧ Own w' W.heap.size A1 c1 xs ∧ Below W.heap.size W w') := fun W h => by
    have := ints_any A c xs W h (by omega)
    rw [hn] at this
    exact this.mono fun e w' ⟨A1, c1, h1, h2, h3⟩ => ⟨A1, c1, by rw [← hn]; exact h1, h2, h3⟩
  rw [hn]
  rw [← hY, ← hq, ← her] at K1 K2
  have YL : Y.length ≤ n := by rw [hY]; split; exact Nat.le_of_eq (makeN_len _ _ _ _); exact Nat.zero_le _
  clear hY hq her
  obtain ⟨q0, q1, q2, q3, q4, q5, q6, q7, rfl⟩ := list8 hql
  obtain ⟨p0, p1, p2, p3, p4, p5, p6, p7, rfl⟩ := list8 hp
  have hI := IB.new w 37 a
  have hJ := IB.new (w.alloc (.cells (agi a) 37)) 33 [p0, p1, p2, p3, p4, p5, p6, p7]
  simp only [World.size_alloc] at hJ
  have hI := Blk.alloc hI (.cells (agi [p0, p1, p2, p3, p4, p5, p6, p7]) 33)
  have hB := (((Below.refl _ w).alloc (Nat.le_refl _) (.cells (agi a) 37)).alloc (by simp) (.cells (agi [p0, p1, p2, p3, p4, p5, p6, p7]) 33))
  have hs : ((w.alloc (.cells (agi a) 37)).alloc (.cells (agi [p0, p1, p2, p3, p4, p5, p6, p7]) 33)).heap.size = w.heap.size + 1 + 1 := by simp
  have hr1 := hr.below hB
  rw [agi8] at hI hJ hB hs hr1 K1 K2
  generalize hW : (w.alloc (.cells (agi a) 37)).alloc (.cells #[.int .i64 p0, .int .i64 p1, .int .i64 p2, .int .i64 p3, .int .i64 p4, .int .i64 p5, .int .i64 p6, .int .i64 p7] 33) = W at hI hJ hB hs hr1
  have cw0 : World.cell? W ⟨w.heap.size + 1, 0, none⟩ = some (.int .i64 p0) := IB.cell hJ 0 (by first | decide | simp); have cw1 : World.cell? W ⟨w.heap.size + 1, 1, none⟩ = some (.int .i64 p1) := IB.cell hJ 1 (by first | decide | simp); have cw2 : World.cell? W ⟨w.heap.size + 1, 2, none⟩ = some (.int .i64 p2) := IB.cell hJ 2 (by first | decide | simp); have cw3 : World.cell? W ⟨w.heap.size + 1, 3, none⟩ = some (.int .i64 p3) := IB.cell hJ 3 (by first | decide | simp); have cw4 : World.cell? W ⟨w.heap.size + 1, 4, none⟩ = some (.int .i64 p4) := IB.cell hJ 4 (by first | decide | simp); have cw5 : World.cell? W ⟨w.heap.size + 1, 5, none⟩ = some (.int .i64 p5) := IB.cell hJ 5 (by first | decide | simp); have cw6 : World.cell? W ⟨w.heap.size + 1, 6, none⟩ = some (.int .i64 p6) := IB.cell hJ 6 (by first | decide | simp); have cw7 : World.cell? W ⟨w.heap.size + 1, 7, none⟩ = some (.int .i64 p7) := IB.cell hJ 7 (by first | decide | simp)
  have rg : W.rangeAt w.heap.size 0 (ints a) := IB.rangeAt hI
  have HR2 := hid (fun W2 (hb : Below W.heap.size W W2) => (hr1.below (hb.mono (by omega))).more (show w.heap.size ≤ W2.heap.size from by have := hb.size; omega))
  have HI := hid hI
  have HJ := hid hJ
  have HB := hid hB
  have HS := hid hs
  have HA := hid ha
  have HN := hid hn
  have HQ := hid hql
  have HP := hid hp
  have HC := hid hc
  have HL := hid hl
  have HYL := hid YL
  have HR := hid hr
  have K1 : ∀ W A1 c1, Rs W W.heap.size A1 xs → Calls Try.prog 35 #[.agg (ints a).toArray, .agg #[Value.int .i64 p0, Value.int .i64 p1, Value.int .i64 p2, Value.int .i64 p3, Value.int .i64 p4, Value.int .i64 p5, Value.int .i64 p6, Value.int .i64 p7], .slice A1 n c1] W (fun e w' => ∃ A3 c3, e = .returned (.tuple #[.slice A3 Y.length c3, .agg #[Value.int .i64 q0, Value.int .i64 q1, Value.int .i64 q2, Value.int .i64 q3, Value.int .i64 q4, Value.int .i64 q5, Value.int .i64 q6, Value.int .i64 q7], Value.int .i64 er]) ∧ Own w' W.heap.size A3 c3 Y ∧ Below W.heap.size W w') := K1
  have K2 : ∀ W, Rs W W.heap.size A xs → Calls Try.prog 36 #[.agg (agi a), .agg (agi [p0, p1, p2, p3, p4, p5, p6, p7]), .slice A n c] W (fun e w' => ∃ A3 c3, e = .returned (.tuple #[.slice A3 Y.length c3, .agg (agi [q0, q1, q2, q3, q4, q5, q6, q7]), .int .i64 er]) ∧ Own w' W.heap.size A3 c3 Y ∧ Below W.heap.size W w') := K2
  have K3 := fun W g hg h5 => make5_any W g hg h5
  have K1' := hid K1
  have K2' := hid K2
  have K3' := hid K3
  have heq := run_eql_agi Try.underlying33 [q0, q1, q2, q3, q4, q5, q6, q7] rfl
  have KI' := hid KI
  have hu9 := Try.underlying37
  have hi9 : (Try.prog.info? 37).map (·.size) = some (ints a).length := by rw [ints_len, ha]; exact size9
  clear hI hJ hB hs hr1 ha hn hql hp hc hl hr YL K1 K2 K3 KI
  go_enter Try.func12, Try.ntmps12
  go_wp2
  rw [agi8, hW]
  clear hW
  have hltI : w.heap.size < W.heap.size := by have := HS.out; omega
  have hltJ : w.heap.size + 1 < W.heap.size := by have := HS.out; omega
  go_region_held3 (fun w' => w'.rangeAt w.heap.size 0 (ints a) ∧ w'.cell? ⟨w.heap.size + 1, 0, none⟩ = some (.int .i64 p0) ∧ w'.cell? ⟨w.heap.size + 1, 1, none⟩ = some (.int .i64 p1) ∧ w'.cell? ⟨w.heap.size + 1, 2, none⟩ = some (.int .i64 p2) ∧ w'.cell? ⟨w.heap.size + 1, 3, none⟩ = some (.int .i64 p3) ∧ w'.cell? ⟨w.heap.size + 1, 4, none⟩ = some (.int .i64 p4) ∧ w'.cell? ⟨w.heap.size + 1, 5, none⟩ = some (.int .i64 p5) ∧ w'.cell? ⟨w.heap.size + 1, 6, none⟩ = some (.int .i64 p6) ∧ w'.cell? ⟨w.heap.size + 1, 7, none⟩ = some (.int .i64 p7)) ((first | ((with_reducible refine ⟨World.rangeAt_alloc (by assumption) _, ?_⟩); go_keep) | ((with_reducible refine ⟨rangeAt_alloc_drew (by assumption) _, ?_⟩); go_keep) | ((with_reducible refine ⟨rangeAt_far8 (by assumption) (by omega) _ _ _ _ _ _ _ _, ?_⟩); go_keep) | go_keep)) (first
    | (go_at_call 31; (with_reducible refine (KI'.out _ (HR2.out W.drew ((Below.refl _ _).drew))).mono ?_); rintro e w2 ⟨A1, c1, rfl, hO, hBx⟩; have I2 : IB w2 w.heap.size 37 a := Blk.below' (Blk.drew HI.out) hBx; have J2 : IB w2 (w.heap.size + 1) 33 [p0, p1, p2, p3, p4, p5, p6, p7] := Blk.below' (Blk.drew HJ.out) hBx; have B2 := hid ((HB.out.trans (((Below.refl _ _).drew : Below W.heap.size W _).mono (show w.heap.size ≤ W.heap.size by omega))).trans (hBx.mono (by simp; omega))); have R2 := hid hO.reads; have s2 : W.heap.size ≤ w2.heap.size := (by have := hBx.size; simp at this; omega); have rgw2 : World.rangeAt w2 w.heap.size 0 (ints a) := IB.rangeAt I2; have k0 : World.cell? w2 ⟨w.heap.size + 1, 0, none⟩ = some (.int .i64 p0) := IB.cell J2 0 (by first | decide | simp); have k1 : World.cell? w2 ⟨w.heap.size + 1, 1, none⟩ = some (.int .i64 p1) := IB.cell J2 1 (by first | decide | simp); have k2 : World.cell? w2 ⟨w.heap.size + 1, 2, none⟩ = some (.int .i64 p2) := IB.cell J2 2 (by first | decide | simp); have k3 : World.cell? w2 ⟨w.heap.size + 1, 3, none⟩ = some (.int .i64 p3) := IB.cell J2 3 (by first | decide | simp); have k4 : World.cell? w2 ⟨w.heap.size + 1, 4, none⟩ = some (.int .i64 p4) := IB.cell J2 4 (by first | decide | simp); have k5 : World.cell? w2 ⟨w.heap.size + 1, 5, none⟩ = some (.int .i64 p5) := IB.cell J2 5 (by first | decide | simp); have k6 : World.cell? w2 ⟨w.heap.size + 1, 6, none⟩ = some (.int .i64 p6) := IB.cell J2 6 (by first | decide | simp); have k7 : World.cell? w2 ⟨w.heap.size + 1, 7, none⟩ = some (.int .i64 p7) := IB.cell J2 7 (by first | decide | simp); have I2 := hid I2; have J2 := hid J2; clear hO hBx)
    | (go_at_call 31; (with_reducible refine (KI'.out _ (HR2.out (W.alloc (.cells #[Value.int .i64 0, Value.int .i64 0, Value.int .i64 0, Value.int .i64 0, Value.int .i64 0, Value.int .i64 0, Value.int .i64 0, Value.int .i64 0] 33)).drew (((Below.refl _ _).alloc (Nat.le_refl _) _).drew))).mono ?_); rintro e w2 ⟨A1, c1, rfl, hO, hBx⟩; have I2 : IB w2 w.heap.size 37 a := Blk.below' (Blk.drew (Blk.alloc HI.out _)) hBx; have J2 : IB w2 (w.heap.size + 1) 33 [p0, p1, p2, p3, p4, p5, p6, p7] := Blk.below' (Blk.drew (Blk.alloc HJ.out _)) hBx; have B2 := hid ((HB.out.trans ((((Below.refl _ _).alloc (Nat.le_refl _) _).drew : Below W.heap.size W _).mono (show w.heap.size ≤ W.heap.size by omega))).trans (hBx.mono (by simp; omega))); have R2 := hid hO.reads; have s2 : W.heap.size ≤ w2.heap.size := (by have := hBx.size; simp at this; omega); have Z2 := hid (show IB w2 W.heap.size 33 Z8 from Blk.below' (Blk.drew (IB.new W 33 Z8)) hBx); have rgw2 : World.rangeAt w2 w.heap.size 0 (ints a) := IB.rangeAt I2; have k0 : World.cell? w2 ⟨w.heap.size + 1, 0, none⟩ = some (.int .i64 p0) := IB.cell J2 0 (by first | decide | simp); have k1 : World.cell? w2 ⟨w.heap.size + 1, 1, none⟩ = some (.int .i64 p1) := IB.cell J2 1 (by first | decide | simp); have k2 : World.cell? w2 ⟨w.heap.size + 1, 2, none⟩ = some (.int .i64 p2) := IB.cell J2 2 (by first | decide | simp); have k3 : World.cell? w2 ⟨w.heap.size + 1, 3, none⟩ = some (.int .i64 p3) := IB.cell J2 3 (by first | decide | simp); have k4 : World.cell? w2 ⟨w.heap.size + 1, 4, none⟩ = some (.int .i64 p4) := IB.cell J2 4 (by first | decide | simp); have k5 : World.cell? w2 ⟨w.heap.size + 1, 5, none⟩ = some (.int .i64 p5) := IB.cell J2 5 (by first | decide | simp); have k6 : World.cell? w2 ⟨w.heap.size + 1, 6, none⟩ = some (.int .i64 p6) := IB.cell J2 6 (by first | decide | simp); have k7 : World.cell? w2 ⟨w.heap.size + 1, 7, none⟩ = some (.int .i64 p7) := IB.cell J2 7 (by first | decide | simp); have I2 := hid I2; have J2 := hid J2; clear hO hBx)
    | (go_at_call 35; (with_reducible refine (K1'.out (w2.alloc (.cells #[Value.int .i64 0, Value.int .i64 0, Value.int .i64 0, Value.int .i64 0, Value.int .i64 0, Value.int .i64 0, Value.int .i64 0, Value.int .i64 0] 33)) A1 c1 ((R2.out.below ((Below.refl _ _).alloc (Nat.le_refl _) _)).more (by simp))).mono ?_); rintro e w3 ⟨A3, c3, rfl, hO, hBx⟩; have I3 : IB w3 w.heap.size 37 a := Blk.below' (Blk.alloc I2.out _) hBx; have J3 : IB w3 (w.heap.size + 1) 33 [p0, p1, p2, p3, p4, p5, p6, p7] := Blk.below' (Blk.alloc J2.out _) hBx; have B3 := hid (((B2.out).alloc (show w.heap.size ≤ w2.heap.size by omega) (.cells (agi Z8) 33)).trans (hBx.mono (by simp; omega))); have O3 := hid hO; have n1 : ¬ w2.heap.size = w.heap.size + 1 := (by omega); have n2 : ¬ w.heap.size + 1 = w2.heap.size := (by omega); have Z3 : IB w3 w2.heap.size 33 Z8 := Blk.below' (IB.new w2 33 Z8) hBx; have z0 : World.cell? w3 ⟨w2.heap.size, 0, none⟩ = some (.int .i64 0) := IB.cell Z3 0 (by first | decide | simp); have z1 : World.cell? w3 ⟨w2.heap.size, 1, none⟩ = some (.int .i64 0) := IB.cell Z3 1 (by first | decide | simp); have z2 : World.cell? w3 ⟨w2.heap.size, 2, none⟩ = some (.int .i64 0) := IB.cell Z3 2 (by first | decide | simp); have z3 : World.cell? w3 ⟨w2.heap.size, 3, none⟩ = some (.int .i64 0) := IB.cell Z3 3 (by first | decide | simp); have z4 : World.cell? w3 ⟨w2.heap.size, 4, none⟩ = some (.int .i64 0) := IB.cell Z3 4 (by first | decide | simp); have z5 : World.cell? w3 ⟨w2.heap.size, 5, none⟩ = some (.int .i64 0) := IB.cell Z3 5 (by first | decide | simp); have z6 : World.cell? w3 ⟨w2.heap.size, 6, none⟩ = some (.int .i64 0) := IB.cell Z3 6 (by first | decide | simp); have z7 : World.cell? w3 ⟨w2.heap.size, 7, none⟩ = some (.int .i64 0) := IB.cell Z3 7 (by first | decide | simp); have y0 : World.frozen? w3 ⟨w2.heap.size, 0, none⟩ = false := Blk.frozen Z3 0; have y1 : World.frozen? w3 ⟨w2.heap.size, 1, none⟩ = false := Blk.frozen Z3 1; have y2 : World.frozen? w3 ⟨w2.heap.size, 2, none⟩ = false := Blk.frozen Z3 2; have y3 : World.frozen? w3 ⟨w2.heap.size, 3, none⟩ = false := Blk.frozen Z3 3; have y4 : World.frozen? w3 ⟨w2.heap.size, 4, none⟩ = false := Blk.frozen Z3 4; have y5 : World.frozen? w3 ⟨w2.heap.size, 5, none⟩ = false := Blk.frozen Z3 5; have y6 : World.frozen? w3 ⟨w2.heap.size, 6, none⟩ = false := Blk.frozen Z3 6; have y7 : World.frozen? w3 ⟨w2.heap.size, 7, none⟩ = false := Blk.frozen Z3 7; have Z3 := hid Z3; have rgw3 : World.rangeAt w3 w.heap.size 0 (ints a) := IB.rangeAt I3; have m0 : World.cell? w3 ⟨w.heap.size + 1, 0, none⟩ = some (.int .i64 p0) := IB.cell J3 0 (by first | decide | simp); have m1 : World.cell? w3 ⟨w.heap.size + 1, 1, none⟩ = some (.int .i64 p1) := IB.cell J3 1 (by first | decide | simp); have m2 : World.cell? w3 ⟨w.heap.size + 1, 2, none⟩ = some (.int .i64 p2) := IB.cell J3 2 (by first | decide | simp); have m3 : World.cell? w3 ⟨w.heap.size + 1, 3, none⟩ = some (.int .i64 p3) := IB.cell J3 3 (by first | decide | simp); have m4 : World.cell? w3 ⟨w.heap.size + 1, 4, none⟩ = some (.int .i64 p4) := IB.cell J3 4 (by first | decide | simp); have m5 : World.cell? w3 ⟨w.heap.size + 1, 5, none⟩ = some (.int .i64 p5) := IB.cell J3 5 (by first | decide | simp); have m6 : World.cell? w3 ⟨w.heap.size + 1, 6, none⟩ = some (.int .i64 p6) := IB.cell J3 6 (by first | decide | simp); have m7 : World.cell? w3 ⟨w.heap.size + 1, 7, none⟩ = some (.int .i64 p7) := IB.cell J3 7 (by first | decide | simp); have I3 := hid I3; have J3 := hid J3; clear hO hBx)
    | (go_at_call 35; have Z2' := Z2.out; (with_reducible refine (K1'.out w2 A1 c1 R2.out).mono ?_); rintro e w3 ⟨A3, c3, rfl, hO, hBx⟩; have I3 : IB w3 w.heap.size 37 a := Blk.below' (I2.out) hBx; have J3 : IB w3 (w.heap.size + 1) 33 [p0, p1, p2, p3, p4, p5, p6, p7] := Blk.below' (J2.out) hBx; have B3 := hid (B2.out.trans (hBx.mono (show w.heap.size ≤ w2.heap.size by omega))); have O3 := hid hO; have n1 : ¬ W.heap.size = w.heap.size + 1 := (by omega); have n2 : ¬ w.heap.size + 1 = W.heap.size := (by omega); have Z3 : IB w3 W.heap.size 33 Z8 := Blk.below' Z2.out hBx; have z0 : World.cell? w3 ⟨W.heap.size, 0, none⟩ = some (.int .i64 0) := IB.cell Z3 0 (by first | decide | simp); have z1 : World.cell? w3 ⟨W.heap.size, 1, none⟩ = some (.int .i64 0) := IB.cell Z3 1 (by first | decide | simp); have z2 : World.cell? w3 ⟨W.heap.size, 2, none⟩ = some (.int .i64 0) := IB.cell Z3 2 (by first | decide | simp); have z3 : World.cell? w3 ⟨W.heap.size, 3, none⟩ = some (.int .i64 0) := IB.cell Z3 3 (by first | decide | simp); have z4 : World.cell? w3 ⟨W.heap.size, 4, none⟩ = some (.int .i64 0) := IB.cell Z3 4 (by first | decide | simp); have z5 : World.cell? w3 ⟨W.heap.size, 5, none⟩ = some (.int .i64 0) := IB.cell Z3 5 (by first | decide | simp); have z6 : World.cell? w3 ⟨W.heap.size, 6, none⟩ = some (.int .i64 0) := IB.cell Z3 6 (by first | decide | simp); have z7 : World.cell? w3 ⟨W.heap.size, 7, none⟩ = some (.int .i64 0) := IB.cell Z3 7 (by first | decide | simp); have y0 : World.frozen? w3 ⟨W.heap.size, 0, none⟩ = false := Blk.frozen Z3 0; have y1 : World.frozen? w3 ⟨W.heap.size, 1, none⟩ = false := Blk.frozen Z3 1; have y2 : World.frozen? w3 ⟨W.heap.size, 2, none⟩ = false := Blk.frozen Z3 2; have y3 : World.frozen? w3 ⟨W.heap.size, 3, none⟩ = false := Blk.frozen Z3 3; have y4 : World.frozen? w3 ⟨W.heap.size, 4, none⟩ = false := Blk.frozen Z3 4; have y5 : World.frozen? w3 ⟨W.heap.size, 5, none⟩ = false := Blk.frozen Z3 5; have y6 : World.frozen? w3 ⟨W.heap.size, 6, none⟩ = false := Blk.frozen Z3 6; have y7 : World.frozen? w3 ⟨W.heap.size, 7, none⟩ = false := Blk.frozen Z3 7; have Z3 := hid Z3; have rgw3 : World.rangeAt w3 w.heap.size 0 (ints a) := IB.rangeAt I3; have m0 : World.cell? w3 ⟨w.heap.size + 1, 0, none⟩ = some (.int .i64 p0) := IB.cell J3 0 (by first | decide | simp); have m1 : World.cell? w3 ⟨w.heap.size + 1, 1, none⟩ = some (.int .i64 p1) := IB.cell J3 1 (by first | decide | simp); have m2 : World.cell? w3 ⟨w.heap.size + 1, 2, none⟩ = some (.int .i64 p2) := IB.cell J3 2 (by first | decide | simp); have m3 : World.cell? w3 ⟨w.heap.size + 1, 3, none⟩ = some (.int .i64 p3) := IB.cell J3 3 (by first | decide | simp); have m4 : World.cell? w3 ⟨w.heap.size + 1, 4, none⟩ = some (.int .i64 p4) := IB.cell J3 4 (by first | decide | simp); have m5 : World.cell? w3 ⟨w.heap.size + 1, 5, none⟩ = some (.int .i64 p5) := IB.cell J3 5 (by first | decide | simp); have m6 : World.cell? w3 ⟨w.heap.size + 1, 6, none⟩ = some (.int .i64 p6) := IB.cell J3 6 (by first | decide | simp); have m7 : World.cell? w3 ⟨w.heap.size + 1, 7, none⟩ = some (.int .i64 p7) := IB.cell J3 7 (by first | decide | simp); have I3 := hid I3; have J3 := hid J3; clear hO hBx)
    | (go_at_call 35; (with_reducible refine (K1'.out w2 A1 c1 (R2.out)).mono ?_); rintro e w3 ⟨A3, c3, rfl, hO, hBx⟩; have I3 : IB w3 w.heap.size 37 a := Blk.below' (I2.out) hBx; have J3 : IB w3 (w.heap.size + 1) 33 [p0, p1, p2, p3, p4, p5, p6, p7] := Blk.below' (J2.out) hBx; have B3 := hid (B2.out.trans (hBx.mono (show w.heap.size ≤ w2.heap.size by omega))); have O3 := hid hO; have rgw3 : World.rangeAt w3 w.heap.size 0 (ints a) := IB.rangeAt I3; have m0 : World.cell? w3 ⟨w.heap.size + 1, 0, none⟩ = some (.int .i64 p0) := IB.cell J3 0 (by first | decide | simp); have m1 : World.cell? w3 ⟨w.heap.size + 1, 1, none⟩ = some (.int .i64 p1) := IB.cell J3 1 (by first | decide | simp); have m2 : World.cell? w3 ⟨w.heap.size + 1, 2, none⟩ = some (.int .i64 p2) := IB.cell J3 2 (by first | decide | simp); have m3 : World.cell? w3 ⟨w.heap.size + 1, 3, none⟩ = some (.int .i64 p3) := IB.cell J3 3 (by first | decide | simp); have m4 : World.cell? w3 ⟨w.heap.size + 1, 4, none⟩ = some (.int .i64 p4) := IB.cell J3 4 (by first | decide | simp); have m5 : World.cell? w3 ⟨w.heap.size + 1, 5, none⟩ = some (.int .i64 p5) := IB.cell J3 5 (by first | decide | simp); have m6 : World.cell? w3 ⟨w.heap.size + 1, 6, none⟩ = some (.int .i64 p6) := IB.cell J3 6 (by first | decide | simp); have m7 : World.cell? w3 ⟨w.heap.size + 1, 7, none⟩ = some (.int .i64 p7) := IB.cell J3 7 (by first | decide | simp); have I3 := hid I3; have J3 := hid J3; clear hO hBx))
  all_goals
    rename_i hHeldZ
    clear hHeldZ
    first
      | (have z2 := Z2.out
         clear z2
         have SV : SLx w (World.setCell (World.setCell (World.setCell (World.setCell (World.setCell (World.setCell (World.setCell (World.setCell w3 ⟨W.heap.size, 0, none⟩ (.int .i64 q0)) ⟨W.heap.size, 1, none⟩ (.int .i64 q1)) ⟨W.heap.size, 2, none⟩ (.int .i64 q2)) ⟨W.heap.size, 3, none⟩ (.int .i64 q3)) ⟨W.heap.size, 4, none⟩ (.int .i64 q4)) ⟨W.heap.size, 5, none⟩ (.int .i64 q5)) ⟨W.heap.size, 6, none⟩ (.int .i64 q6)) ⟨W.heap.size, 7, none⟩ (.int .i64 q7)) a [p0, p1, p2, p3, p4, p5, p6, p7] [q0, q1, q2, q3, q4, q5, q6, q7] Y A3 W.heap.size := ⟨Blk.far8 I3.out (by omega) _ _ _ _ _ _ _ _, Blk.far8 J3.out (by omega) _ _ _ _ _ _ _ _, IB.set8 Z3.out q0 q1 q2 q3 q4 q5 q6 q7, (O3.out.set8 (Blk.lt Z2.out) q0 q1 q2 q3 q4 q5 q6 q7).reads, below_set8 B3.out (by omega) q0 q1 q2 q3 q4 q5 q6 q7⟩
         obtain ⟨V, hV⟩ : ∃ V, V = (World.setCell (World.setCell (World.setCell (World.setCell (World.setCell (World.setCell (World.setCell (World.setCell w3 ⟨W.heap.size, 0, none⟩ (.int .i64 q0)) ⟨W.heap.size, 1, none⟩ (.int .i64 q1)) ⟨W.heap.size, 2, none⟩ (.int .i64 q2)) ⟨W.heap.size, 3, none⟩ (.int .i64 q3)) ⟨W.heap.size, 4, none⟩ (.int .i64 q4)) ⟨W.heap.size, 5, none⟩ (.int .i64 q5)) ⟨W.heap.size, 6, none⟩ (.int .i64 q6)) ⟨W.heap.size, 7, none⟩ (.int .i64 q7)) := ⟨_, rfl⟩
         rw [← hV] at SV ⊢
         have SV' := hid SV
         clear SV hV)
      | (have z3 := Z3.out
         clear z3
         have SV : SLx w (World.setCell (World.setCell (World.setCell (World.setCell (World.setCell (World.setCell (World.setCell (World.setCell w3 ⟨w2.heap.size, 0, none⟩ (.int .i64 q0)) ⟨w2.heap.size, 1, none⟩ (.int .i64 q1)) ⟨w2.heap.size, 2, none⟩ (.int .i64 q2)) ⟨w2.heap.size, 3, none⟩ (.int .i64 q3)) ⟨w2.heap.size, 4, none⟩ (.int .i64 q4)) ⟨w2.heap.size, 5, none⟩ (.int .i64 q5)) ⟨w2.heap.size, 6, none⟩ (.int .i64 q6)) ⟨w2.heap.size, 7, none⟩ (.int .i64 q7)) a [p0, p1, p2, p3, p4, p5, p6, p7] [q0, q1, q2, q3, q4, q5, q6, q7] Y A3 w2.heap.size := ⟨Blk.far8 I3.out (by omega) _ _ _ _ _ _ _ _, Blk.far8 J3.out (by omega) _ _ _ _ _ _ _ _, IB.set8 Z3.out q0 q1 q2 q3 q4 q5 q6 q7, (O3.out.set8 (by simp) q0 q1 q2 q3 q4 q5 q6 q7).reads, below_set8 B3.out (by omega) q0 q1 q2 q3 q4 q5 q6 q7⟩
         obtain ⟨V, hV⟩ : ∃ V, V = (World.setCell (World.setCell (World.setCell (World.setCell (World.setCell (World.setCell (World.setCell (World.setCell w3 ⟨w2.heap.size, 0, none⟩ (.int .i64 q0)) ⟨w2.heap.size, 1, none⟩ (.int .i64 q1)) ⟨w2.heap.size, 2, none⟩ (.int .i64 q2)) ⟨w2.heap.size, 3, none⟩ (.int .i64 q3)) ⟨w2.heap.size, 4, none⟩ (.int .i64 q4)) ⟨w2.heap.size, 5, none⟩ (.int .i64 q5)) ⟨w2.heap.size, 6, none⟩ (.int .i64 q6)) ⟨w2.heap.size, 7, none⟩ (.int .i64 q7)) := ⟨_, rfl⟩
         rw [← hV] at SV ⊢
         have SV' := hid SV
         clear SV hV)
      | (have SV : SLx w (w3.alloc (.cells #[Value.int .i64 q0, Value.int .i64 q1, Value.int .i64 q2, Value.int .i64 q3, Value.int .i64 q4, Value.int .i64 q5, Value.int .i64 q6, Value.int .i64 q7] 33)) a [p0, p1, p2, p3, p4, p5, p6, p7] [q0, q1, q2, q3, q4, q5, q6, q7] Y A3 w3.heap.size := ⟨Blk.alloc I3.out _, Blk.alloc J3.out _, IB.new w3 33 [q0, q1, q2, q3, q4, q5, q6, q7], (O3.out.alloc _).reads, B3.out.alloc (by have := B3.out.size; omega) _⟩
         obtain ⟨V, hV⟩ : ∃ V, V = (w3.alloc (.cells #[Value.int .i64 q0, Value.int .i64 q1, Value.int .i64 q2, Value.int .i64 q3, Value.int .i64 q4, Value.int .i64 q5, Value.int .i64 q6, Value.int .i64 q7] 33)) := ⟨_, rfl⟩
         rw [← hV] at SV ⊢
         have SV' := hid SV
         clear SV hV)
  all_goals
    try clear z0 z1 z2 z3 z4 z5 z6 z7 y0 y1 y2 y3 y4 y5 y6 y7
    clear k0 k1 k2 k3 k4 k5 k6 k7 m0 m1 m2 m3 m4 m5 m6 m7
    clear cw0 cw1 cw2 cw3 cw4 cw5 cw6 cw7
    clear rg rgw2 rgw3
    simp only [Exit.then]
    have RV := hid ((HR.out.below SV'.out.B).more SV'.out.B.size)
    go_wp2_with (first
      | (refine wpList_loadI rfl 37 (.tmp 3) rfl _ 37 a 9 _ rfl SV'.out.I Try.underlying37 rfl size9 HA.out ?_)
      | (refine wpList_loadI rfl 33 (.tmp 4) rfl _ 33 [p0, p1, p2, p3, p4, p5, p6, p7] 8 _ rfl SV'.out.J Try.underlying33 rfl size8 rfl ?_))
    refine (K2'.out _ RV.out).mono ?_
    rintro e w4 ⟨A4, c4, rfl, hO, hB⟩
    have S4 := hid (SV'.out.below hB)
    have R4 := hid hO.reads
    clear hB hO SV'
    go_wp2_with (refine wpList_storeI rfl 33 (.tmp 11) (.tmp 31) rfl _ 33 Z8 [q0, q1, q2, q3, q4, q5, q6, q7] 8 rfl rfl (IB.new w4 33 Z8) size8 rfl rfl ?_
                 obtain ⟨w5, hw5⟩ : ∃ w5, w5 = (w4.alloc (.cells #[Value.int .i64 0, Value.int .i64 0, Value.int .i64 0, Value.int .i64 0, Value.int .i64 0, Value.int .i64 0, Value.int .i64 0, Value.int .i64 0] 33)).setRow w4.heap.size (agi [q0, q1, q2, q3, q4, q5, q6, q7]) := ⟨_, rfl⟩
                 rw [← hw5]
                 have S5 := hid (show SLx w w5 a _ [q0, q1, q2, q3, q4, q5, q6, q7] Y A3 _ by rw [hw5]; exact S4.out.below (below_stored w4 (.cells (agi Z8) 33) _))
                 have R5 := hid (show Rs w5 w5.heap.size A4 Y by rw [hw5]; exact (R4.out.below (below_stored w4 (.cells (agi Z8) 33) _)).more (below_stored w4 (.cells (agi Z8) 33) (agi [q0, q1, q2, q3, q4, q5, q6, q7])).size)
                 have Q5 := hid (show IB w5 w4.heap.size 33 [q0, q1, q2, q3, q4, q5, q6, q7] by rw [hw5]; exact IB.stored w4 33 Z8 [q0, q1, q2, q3, q4, q5, q6, q7])
                 clear hw5)
    clear S4 R4
    refine (K3'.out _ w5.heap.size (by simp) (cell_new w5 _ _)).mono ?_
    rintro e w6 ⟨A6, c6, q', er', hq', rfl, hB⟩
    have L5 := (Below.refl w5.heap.size w5).alloc (Nat.le_refl _) (.cells #[.int .i64 5] 3)
    have hB6 := L5.trans (hB.mono (by simp))
    have S6 := hid (S5.out.below hB6)
    have R6 := hid ((R5.out.below hB6).more hB6.size)
    have Q6 := hid (Blk.below' Q5.out hB6)
    have HQ' := hid hq'
    clear hB hB6 L5 S5 R5 Q5 hq'
    go_wp2_with (refine wpList_storeI rfl 33 (.tmp 14) (.tmp 39) rfl _ 33 Z8 q' 8 rfl rfl (IB.new w6 33 Z8) size8 rfl HQ'.out ?_
                 obtain ⟨w7, hw7⟩ : ∃ w7, w7 = (w6.alloc (.cells #[Value.int .i64 0, Value.int .i64 0, Value.int .i64 0, Value.int .i64 0, Value.int .i64 0, Value.int .i64 0, Value.int .i64 0, Value.int .i64 0] 33)).setRow w6.heap.size (agi q') := ⟨_, rfl⟩
                 rw [← hw7]
                 have B7 := hid (show Below w6.heap.size w6 w7 by rw [hw7]; exact below_stored w6 (.cells (agi Z8) 33) _)
                 clear hw7)
    have S7 := hid (S6.out.below B7.out)
    have R7 := hid ((R6.out.below B7.out).more B7.out.size)
    have Q7 := hid (Blk.below' Q6.out B7.out)
    clear S6 R6 Q6
    refine (Same_yes A3 A4 c3 c4 Y.length _ _ Y _ S7.out.R R7.out rfl (by have := HYL.out; have := HC.out; have := HL.out; have := HN.out; omega)).mono ?_
    rintro e w8 ⟨rfl, hB⟩
    have S8 := hid (S7.out.below hB)
    have Q8 := hid (Blk.below' Q7.out hB)
    clear hB S7 Q7 R7
    go_wp2_with (first
      | (refine wpList_loadI rfl 33 (.tmp 8) rfl _ 33 [q0, q1, q2, q3, q4, q5, q6, q7] 8 _ rfl S8.out.Q Try.underlying33 rfl size8 rfl ?_)
      | (refine wpList_loadI rfl 33 (.tmp 11) rfl _ 33 [q0, q1, q2, q3, q4, q5, q6, q7] 8 _ rfl Q8.out Try.underlying33 rfl size8 rfl ?_))
    go_ret
    exact ⟨by simp, S8.out.B⟩
end Go.Proofs.Ythajpmilccpgeaa
