/- The walk of the law FrontHighs. -/
import Derived.Test.YtniechgbbkkncaaHeld
import Derived.Test.YtniechgbbkkncaaHighR
import Derived.Test.YtniechgbbkkncaaEqS
namespace Go.Proofs.Ytniechgbbkkncaa
set_option linter.unusedVariables false
set_option linter.unusedSimpArgs false
set_option maxRecDepth 100000
open Go.RowKit

/-- Behind the program's call: the box, the answer's box, the answer's samples. -/
structure HLx (w V : World) (h q Y : List Int) (A : Option Addr) (g : Nat) : Prop where
  J : IB V w.heap.size 24 h
  Q : IB V g 24 q
  R : Rs V V.heap.size A Y
  B : Below w.heap.size w V
theorem HLx.below {w V V' : World} {h q Y : List Int} {A : Option Addr} {g : Nat} (s : HLx w V h q Y A g) (hb : Below V.heap.size V V') : HLx w V' h q Y A g :=
  ⟨Blk.below' s.J hb, Blk.below' s.Q hb, (s.R.below hb).more hb.size, s.B.trans (hb.mono s.B.size)⟩
theorem list4 {xs : List Int} (h : xs.length = 4) : ∃ a b c d, xs = [a, b, c, d] := by
  match xs, h with
  | [a, b, c, d], _ => exact ⟨a, b, c, d, rfl⟩
theorem IB.set4' {w : World} {g k : Nat} {t : TypeId} {xs : List Int} (h : IB w k t xs) (hp : k ≠ g) (v0 v1 v2 v3 : Value) : IB ((((w.setCell ⟨g, 0, none⟩ v0).setCell ⟨g, 1, none⟩ v1).setCell ⟨g, 2, none⟩ v2).setCell ⟨g, 3, none⟩ v3) k t xs :=
  (((Blk.far h (p := ⟨g, 0, none⟩) hp v0).far (p := ⟨g, 1, none⟩) hp v1).far (p := ⟨g, 2, none⟩) hp v2).far (p := ⟨g, 3, none⟩) hp v3

theorem high1_any (W : World) (g : Nat) (hg : g < W.heap.size) (h5 : W.cell? ⟨g, 0, none⟩ = some (.int .i64 4096)) :
    Calls Try.prog 14 #[.agg #[Value.int .i64 0, Value.int .i64 0, Value.int .i64 0, Value.int .i64 0], .slice (some ⟨g, 0, none⟩) 1 1] W (fun e w' => ∃ A3 c3 q er, q.length = 4 ∧ e = .returned (.tuple #[.slice A3 1 c3, .agg (agi q), .int .i64 er]) ∧ Below W.heap.size W w') := by
  have hR : Rs W W.heap.size (some ⟨g, 0, none⟩) [4096] := ⟨rfl, fun _ => ⟨_, rfl, hg, fun j u hu => by
    rcases j with _ | j
    · rw [add_zero', ← Option.some_inj.1 hu]; exact h5
    · simp [ints] at hu⟩⟩
  refine (frontHigh_any 0 0 0 0 [4096] (some ⟨g, 0, none⟩) 1 1 W hR rfl (by omega)).mono ?_
  rintro e w' ⟨A3, c3, h1, _, h3⟩
  have hgood : hiOk 0 0 0 0 [4096] = true := by decide
  unfold hiA at h1
  rw [if_pos hgood] at h1
  exact ⟨A3, c3, _, _, rfl, h1, h3⟩

set_option maxHeartbeats 4000000 in
theorem walkFrontHighs (w : World) (h : List Int) (hh : h.length = 4) (_ : W64 h) (A : Option Addr) (c : Nat) (xs : List Int) (hr : Rs w w.heap.size A xs) (_ : W64 xs) (hl : xs.length ≤ c) (hc : c * 8 ≤ 140737488351232) :
    Calls Try.prog 3 #[.agg (agi h), .slice A xs.length c] w fun e w' => e = .returned (.bool true) ∧ Below w.heap.size w w' := by
  obtain ⟨p0, p1, p2, p3, rfl⟩ := list4 hh
  obtain ⟨n, hn⟩ : ∃ n, xs.length = n := ⟨_, rfl⟩
  obtain ⟨Y, hY⟩ : ∃ Y, Y = (hiA xs p0 p1 p2 p3 n).2.1 := ⟨_, rfl⟩
  obtain ⟨q, hq⟩ : ∃ q, q = (hiA xs p0 p1 p2 p3 n).1 := ⟨_, rfl⟩
  obtain ⟨er, her⟩ : ∃ er, er = errOf (hiA xs p0 p1 p2 p3 n).2.2 := ⟨_, rfl⟩
  have hql : q.length = 4 := by rw [hq]; unfold hiA; split <;> rfl
  have K1 := fun W A1 c1 (h : Rs W W.heap.size A1 xs) => frontHigh_any p0 p1 p2 p3 xs A1 c1 n W h hn (by omega)
  have K2 := fun W (h : Rs W W.heap.size A xs) => refHigh_any p0 p1 p2 p3 xs A c n W h hn (by omega)
  have KI : ∀ W, Rs W W.heap.size A xs → Calls Try.prog 15 #[.slice A n c] W (fun e w' => ∃ A1 c1, e = .returned (.slice A1 n c1) ∧ Own w' W.heap.size A1 c1 xs ∧ Below W.heap.size W w') := fun W h => by
    have := ints_any A c xs W h (by omega)
    rw [hn] at this
    exact this.mono fun e w' ⟨A1, c1, h1, h2, h3⟩ => ⟨A1, c1, by rw [← hn]; exact h1, h2, h3⟩
  rw [hn]
  rw [← hY, ← hq, ← her] at K1 K2
  have YL : Y.length ≤ n := by rw [hY]; unfold hiA; split; exact Nat.le_of_eq (hiN_len _ _ _ _ _ _); exact Nat.zero_le _
  clear hY hq her
  obtain ⟨q0, q1, q2, q3, rfl⟩ := list4 hql
  have hJ := IB.new w 24 [p0, p1, p2, p3]
  have hB := ((Below.refl _ w).alloc (Nat.le_refl _) (.cells (agi [p0, p1, p2, p3]) 24))
  have hs : (w.alloc (.cells (agi [p0, p1, p2, p3]) 24)).heap.size = w.heap.size + 1 := by simp
  have hr1 := hr.below hB
  have agi4 : agi [p0, p1, p2, p3] = #[.int .i64 p0, .int .i64 p1, .int .i64 p2, .int .i64 p3] := rfl
  rw [agi4] at hJ hB hs hr1 K1 K2
  generalize hW : w.alloc (.cells #[.int .i64 p0, .int .i64 p1, .int .i64 p2, .int .i64 p3] 24) = W at hJ hB hs hr1
  have cw0 : World.cell? W ⟨w.heap.size, 0, none⟩ = some (.int .i64 p0) := IB.cell hJ 0 (by first | decide | simp); have cw1 : World.cell? W ⟨w.heap.size, 1, none⟩ = some (.int .i64 p1) := IB.cell hJ 1 (by first | decide | simp); have cw2 : World.cell? W ⟨w.heap.size, 2, none⟩ = some (.int .i64 p2) := IB.cell hJ 2 (by first | decide | simp); have cw3 : World.cell? W ⟨w.heap.size, 3, none⟩ = some (.int .i64 p3) := IB.cell hJ 3 (by first | decide | simp)
  have HR2 := hid (fun W2 (hb : Below W.heap.size W W2) => (hr1.below (hb.mono (by omega))).more (show w.heap.size ≤ W2.heap.size from by have := hb.size; omega))
  have HJ := hid hJ
  have HB := hid hB
  have HS := hid hs
  have HN := hid hn
  have HC := hid hc
  have HL := hid hl
  have HYL := hid YL
  have HR := hid hr
  have K1 : ∀ W A1 c1, Rs W W.heap.size A1 xs → Calls Try.prog 14 #[.agg #[Value.int .i64 p0, Value.int .i64 p1, Value.int .i64 p2, Value.int .i64 p3], .slice A1 n c1] W (fun e w' => ∃ A3 c3, e = .returned (.tuple #[.slice A3 Y.length c3, .agg #[Value.int .i64 q0, Value.int .i64 q1, Value.int .i64 q2, Value.int .i64 q3], .int .i64 er]) ∧ Own w' W.heap.size A3 c3 Y ∧ Below W.heap.size W w') := K1
  have K2 : ∀ W, Rs W W.heap.size A xs → Calls Try.prog 16 #[.agg (agi [p0, p1, p2, p3]), .slice A n c] W (fun e w' => ∃ A3 c3, e = .returned (.tuple #[.slice A3 Y.length c3, .agg (agi [q0, q1, q2, q3]), .int .i64 er]) ∧ Rs w' w'.heap.size A3 Y ∧ Below W.heap.size W w') := K2
  have K3 := fun W g hg h5 => high1_any W g hg h5
  have K1' := hid K1
  have K2' := hid K2
  have K3' := hid K3
  have heq := run_eql_high [q0, q1, q2, q3] rfl
  have KI' := hid KI
  clear hJ hB hs hr1 hn hql hc hl hr YL K1 K2 K3 KI hh
  go_enter Try.func3, Try.ntmps3
  go_wp2
  first | rw [agi4, hW] | rw [agi4] | skip
  clear hW
  have hltJ : w.heap.size < W.heap.size := by have := HS.out; omega
  go_region_held3 (fun w' => w'.cell? ⟨w.heap.size, 0, none⟩ = some (.int .i64 p0) ∧ w'.cell? ⟨w.heap.size, 1, none⟩ = some (.int .i64 p1) ∧ w'.cell? ⟨w.heap.size, 2, none⟩ = some (.int .i64 p2) ∧ w'.cell? ⟨w.heap.size, 3, none⟩ = some (.int .i64 p3)) (go_keep) (first
    | (go_at_call 15; (with_reducible refine (KI'.out _ (HR2.out W.drew ((Below.refl _ _).drew))).mono ?_); rintro e w2 ⟨A1, c1, rfl, hO, hBx⟩; have J2 : IB w2 w.heap.size 24 [p0, p1, p2, p3] := Blk.below' (Blk.drew HJ.out) hBx; have B2 := hid ((HB.out.trans (((Below.refl _ _).drew : Below W.heap.size W _).mono (show w.heap.size ≤ W.heap.size by omega))).trans (hBx.mono (by simp; omega))); have R2 := hid hO.reads; have s2 : W.heap.size ≤ w2.heap.size := (by have := hBx.size; simp at this; omega); have k0 : World.cell? w2 ⟨w.heap.size, 0, none⟩ = some (.int .i64 p0) := IB.cell J2 0 (by first | decide | simp); have k1 : World.cell? w2 ⟨w.heap.size, 1, none⟩ = some (.int .i64 p1) := IB.cell J2 1 (by first | decide | simp); have k2 : World.cell? w2 ⟨w.heap.size, 2, none⟩ = some (.int .i64 p2) := IB.cell J2 2 (by first | decide | simp); have k3 : World.cell? w2 ⟨w.heap.size, 3, none⟩ = some (.int .i64 p3) := IB.cell J2 3 (by first | decide | simp); have J2 := hid J2; clear hO hBx)
    | (go_at_call 15; (with_reducible refine (KI'.out _ (HR2.out (W.alloc (.cells #[Value.int .i64 0, Value.int .i64 0, Value.int .i64 0, Value.int .i64 0] 24)).drew (((Below.refl _ _).alloc (Nat.le_refl _) _).drew))).mono ?_); rintro e w2 ⟨A1, c1, rfl, hO, hBx⟩; have J2 : IB w2 w.heap.size 24 [p0, p1, p2, p3] := Blk.below' (Blk.drew (Blk.alloc HJ.out _)) hBx; have B2 := hid ((HB.out.trans ((((Below.refl _ _).alloc (Nat.le_refl _) _).drew : Below W.heap.size W _).mono (show w.heap.size ≤ W.heap.size by omega))).trans (hBx.mono (by simp; omega))); have R2 := hid hO.reads; have s2 : W.heap.size ≤ w2.heap.size := (by have := hBx.size; simp at this; omega); have Z2 := hid (show IB w2 W.heap.size 24 [0, 0, 0, 0] from Blk.below' (Blk.drew (IB.new W 24 [0, 0, 0, 0])) hBx); have k0 : World.cell? w2 ⟨w.heap.size, 0, none⟩ = some (.int .i64 p0) := IB.cell J2 0 (by first | decide | simp); have k1 : World.cell? w2 ⟨w.heap.size, 1, none⟩ = some (.int .i64 p1) := IB.cell J2 1 (by first | decide | simp); have k2 : World.cell? w2 ⟨w.heap.size, 2, none⟩ = some (.int .i64 p2) := IB.cell J2 2 (by first | decide | simp); have k3 : World.cell? w2 ⟨w.heap.size, 3, none⟩ = some (.int .i64 p3) := IB.cell J2 3 (by first | decide | simp); have J2 := hid J2; clear hO hBx)
    | (go_at_call 14; (with_reducible refine (K1'.out (w2.alloc (.cells #[Value.int .i64 0, Value.int .i64 0, Value.int .i64 0, Value.int .i64 0] 24)) A1 c1 ((R2.out.below ((Below.refl _ _).alloc (Nat.le_refl _) _)).more (by simp))).mono ?_); rintro e w3 ⟨A3, c3, rfl, hO, hBx⟩; have J3 : IB w3 w.heap.size 24 [p0, p1, p2, p3] := Blk.below' (Blk.alloc J2.out _) hBx; have B3 := hid (((B2.out).alloc (show w.heap.size ≤ w2.heap.size by omega) (.cells (agi [0, 0, 0, 0]) 24)).trans (hBx.mono (by simp; omega))); have O3 := hid hO; have n1 : ¬ w2.heap.size = w.heap.size := (by omega); have n2 : ¬ w.heap.size = w2.heap.size := (by omega); have Z3 : IB w3 w2.heap.size 24 [0, 0, 0, 0] := Blk.below' (IB.new w2 24 [0, 0, 0, 0]) hBx; have z0 : World.cell? w3 ⟨w2.heap.size, 0, none⟩ = some (.int .i64 0) := IB.cell Z3 0 (by first | decide | simp); have z1 : World.cell? w3 ⟨w2.heap.size, 1, none⟩ = some (.int .i64 0) := IB.cell Z3 1 (by first | decide | simp); have z2 : World.cell? w3 ⟨w2.heap.size, 2, none⟩ = some (.int .i64 0) := IB.cell Z3 2 (by first | decide | simp); have z3 : World.cell? w3 ⟨w2.heap.size, 3, none⟩ = some (.int .i64 0) := IB.cell Z3 3 (by first | decide | simp); have y0 : World.frozen? w3 ⟨w2.heap.size, 0, none⟩ = false := Blk.frozen Z3 0; have y1 : World.frozen? w3 ⟨w2.heap.size, 1, none⟩ = false := Blk.frozen Z3 1; have y2 : World.frozen? w3 ⟨w2.heap.size, 2, none⟩ = false := Blk.frozen Z3 2; have y3 : World.frozen? w3 ⟨w2.heap.size, 3, none⟩ = false := Blk.frozen Z3 3; have Z3 := hid Z3; have m0 : World.cell? w3 ⟨w.heap.size, 0, none⟩ = some (.int .i64 p0) := IB.cell J3 0 (by first | decide | simp); have m1 : World.cell? w3 ⟨w.heap.size, 1, none⟩ = some (.int .i64 p1) := IB.cell J3 1 (by first | decide | simp); have m2 : World.cell? w3 ⟨w.heap.size, 2, none⟩ = some (.int .i64 p2) := IB.cell J3 2 (by first | decide | simp); have m3 : World.cell? w3 ⟨w.heap.size, 3, none⟩ = some (.int .i64 p3) := IB.cell J3 3 (by first | decide | simp); have J3 := hid J3; clear hO hBx)
    | (go_at_call 14; have Z2' := Z2.out; (with_reducible refine (K1'.out w2 A1 c1 R2.out).mono ?_); rintro e w3 ⟨A3, c3, rfl, hO, hBx⟩; have J3 : IB w3 w.heap.size 24 [p0, p1, p2, p3] := Blk.below' (J2.out) hBx; have B3 := hid (B2.out.trans (hBx.mono (show w.heap.size ≤ w2.heap.size by omega))); have O3 := hid hO; have n1 : ¬ W.heap.size = w.heap.size := (by omega); have n2 : ¬ w.heap.size = W.heap.size := (by omega); have Z3 : IB w3 W.heap.size 24 [0, 0, 0, 0] := Blk.below' Z2.out hBx; have z0 : World.cell? w3 ⟨W.heap.size, 0, none⟩ = some (.int .i64 0) := IB.cell Z3 0 (by first | decide | simp); have z1 : World.cell? w3 ⟨W.heap.size, 1, none⟩ = some (.int .i64 0) := IB.cell Z3 1 (by first | decide | simp); have z2 : World.cell? w3 ⟨W.heap.size, 2, none⟩ = some (.int .i64 0) := IB.cell Z3 2 (by first | decide | simp); have z3 : World.cell? w3 ⟨W.heap.size, 3, none⟩ = some (.int .i64 0) := IB.cell Z3 3 (by first | decide | simp); have y0 : World.frozen? w3 ⟨W.heap.size, 0, none⟩ = false := Blk.frozen Z3 0; have y1 : World.frozen? w3 ⟨W.heap.size, 1, none⟩ = false := Blk.frozen Z3 1; have y2 : World.frozen? w3 ⟨W.heap.size, 2, none⟩ = false := Blk.frozen Z3 2; have y3 : World.frozen? w3 ⟨W.heap.size, 3, none⟩ = false := Blk.frozen Z3 3; have Z3 := hid Z3; have m0 : World.cell? w3 ⟨w.heap.size, 0, none⟩ = some (.int .i64 p0) := IB.cell J3 0 (by first | decide | simp); have m1 : World.cell? w3 ⟨w.heap.size, 1, none⟩ = some (.int .i64 p1) := IB.cell J3 1 (by first | decide | simp); have m2 : World.cell? w3 ⟨w.heap.size, 2, none⟩ = some (.int .i64 p2) := IB.cell J3 2 (by first | decide | simp); have m3 : World.cell? w3 ⟨w.heap.size, 3, none⟩ = some (.int .i64 p3) := IB.cell J3 3 (by first | decide | simp); have J3 := hid J3; clear hO hBx)
    | (go_at_call 14; (with_reducible refine (K1'.out w2 A1 c1 (R2.out)).mono ?_); rintro e w3 ⟨A3, c3, rfl, hO, hBx⟩; have J3 : IB w3 w.heap.size 24 [p0, p1, p2, p3] := Blk.below' (J2.out) hBx; have B3 := hid (B2.out.trans (hBx.mono (show w.heap.size ≤ w2.heap.size by omega))); have O3 := hid hO; have m0 : World.cell? w3 ⟨w.heap.size, 0, none⟩ = some (.int .i64 p0) := IB.cell J3 0 (by first | decide | simp); have m1 : World.cell? w3 ⟨w.heap.size, 1, none⟩ = some (.int .i64 p1) := IB.cell J3 1 (by first | decide | simp); have m2 : World.cell? w3 ⟨w.heap.size, 2, none⟩ = some (.int .i64 p2) := IB.cell J3 2 (by first | decide | simp); have m3 : World.cell? w3 ⟨w.heap.size, 3, none⟩ = some (.int .i64 p3) := IB.cell J3 3 (by first | decide | simp); have J3 := hid J3; clear hO hBx))
  all_goals
    rename_i hHeldZ
    clear hHeldZ
  all_goals
    first
      | (have z2 := Z2.out
         clear z2
         have SV : HLx w (World.setCell (World.setCell (World.setCell (World.setCell w3 ⟨W.heap.size, 0, none⟩ (.int .i64 q0)) ⟨W.heap.size, 1, none⟩ (.int .i64 q1)) ⟨W.heap.size, 2, none⟩ (.int .i64 q2)) ⟨W.heap.size, 3, none⟩ (.int .i64 q3)) [p0, p1, p2, p3] [q0, q1, q2, q3] Y A3 W.heap.size := ⟨IB.set4' J3.out (by omega) _ _ _ _, IB.set4 Z3.out q0 q1 q2 q3, (O3.out.set4 (Blk.lt Z2.out) q0 q1 q2 q3).reads, below_set4 B3.out (by omega) q0 q1 q2 q3⟩
         obtain ⟨V, hV⟩ : ∃ V, V = (World.setCell (World.setCell (World.setCell (World.setCell w3 ⟨W.heap.size, 0, none⟩ (.int .i64 q0)) ⟨W.heap.size, 1, none⟩ (.int .i64 q1)) ⟨W.heap.size, 2, none⟩ (.int .i64 q2)) ⟨W.heap.size, 3, none⟩ (.int .i64 q3)) := ⟨_, rfl⟩
         rw [← hV] at SV ⊢
         have SV' := hid SV
         clear SV hV)
      | (have z3 := Z3.out
         clear z3
         have SV : HLx w (World.setCell (World.setCell (World.setCell (World.setCell w3 ⟨w2.heap.size, 0, none⟩ (.int .i64 q0)) ⟨w2.heap.size, 1, none⟩ (.int .i64 q1)) ⟨w2.heap.size, 2, none⟩ (.int .i64 q2)) ⟨w2.heap.size, 3, none⟩ (.int .i64 q3)) [p0, p1, p2, p3] [q0, q1, q2, q3] Y A3 w2.heap.size := ⟨IB.set4' J3.out (by omega) _ _ _ _, IB.set4 Z3.out q0 q1 q2 q3, (O3.out.set4 (by simp) q0 q1 q2 q3).reads, below_set4 B3.out (by omega) q0 q1 q2 q3⟩
         obtain ⟨V, hV⟩ : ∃ V, V = (World.setCell (World.setCell (World.setCell (World.setCell w3 ⟨w2.heap.size, 0, none⟩ (.int .i64 q0)) ⟨w2.heap.size, 1, none⟩ (.int .i64 q1)) ⟨w2.heap.size, 2, none⟩ (.int .i64 q2)) ⟨w2.heap.size, 3, none⟩ (.int .i64 q3)) := ⟨_, rfl⟩
         rw [← hV] at SV ⊢
         have SV' := hid SV
         clear SV hV)
      | (have SV : HLx w (w3.alloc (.cells #[Value.int .i64 q0, Value.int .i64 q1, Value.int .i64 q2, Value.int .i64 q3] 24)) [p0, p1, p2, p3] [q0, q1, q2, q3] Y A3 w3.heap.size := ⟨Blk.alloc J3.out _, IB.new w3 24 [q0, q1, q2, q3], (O3.out.alloc _).reads, B3.out.alloc (by have := B3.out.size; omega) _⟩
         obtain ⟨V, hV⟩ : ∃ V, V = (w3.alloc (.cells #[Value.int .i64 q0, Value.int .i64 q1, Value.int .i64 q2, Value.int .i64 q3] 24)) := ⟨_, rfl⟩
         rw [← hV] at SV ⊢
         have SV' := hid SV
         clear SV hV)
  all_goals
    try clear z0 z1 z2 z3 y0 y1 y2 y3
    clear k0 k1 k2 k3 m0 m1 m2 m3
    clear cw0 cw1 cw2 cw3
    simp only [Exit.then]
    have RV := hid ((HR.out.below SV'.out.B).more SV'.out.B.size)
    go_wp2_with (refine wpList_loadI rfl 24 (.tmp 2) rfl _ 24 [p0, p1, p2, p3] 4 _ rfl SV'.out.J Try.underlying24 rfl size4 rfl ?_)
    refine (K2'.out _ RV.out).mono ?_
    rintro e w4 ⟨A4, c4, rfl, hO, hB⟩
    have S4 := hid (SV'.out.below hB)
    have R4 := hid hO
    clear hB hO SV'
    go_wp2_with (refine wpList_storeI rfl 24 (.tmp 9) (.tmp 27) rfl _ 24 [0, 0, 0, 0] [q0, q1, q2, q3] 4 rfl rfl (IB.new w4 24 [0, 0, 0, 0]) size4 rfl rfl ?_
                 obtain ⟨w5, hw5⟩ : ∃ w5, w5 = (w4.alloc (.cells #[Value.int .i64 0, Value.int .i64 0, Value.int .i64 0, Value.int .i64 0] 24)).setRow w4.heap.size (agi [q0, q1, q2, q3]) := ⟨_, rfl⟩
                 rw [← hw5]
                 have S5 := hid (show HLx w w5 _ [q0, q1, q2, q3] Y A3 _ by rw [hw5]; exact S4.out.below (below_stored w4 (.cells (agi [0, 0, 0, 0]) 24) _))
                 have R5 := hid (show Rs w5 w5.heap.size A4 Y by rw [hw5]; exact (R4.out.below (below_stored w4 (.cells (agi [0, 0, 0, 0]) 24) _)).more (below_stored w4 (.cells (agi [0, 0, 0, 0]) 24) (agi [q0, q1, q2, q3])).size)
                 have Q5 := hid (show IB w5 w4.heap.size 24 [q0, q1, q2, q3] by rw [hw5]; exact IB.stored w4 24 [0, 0, 0, 0] [q0, q1, q2, q3])
                 clear hw5)
    clear S4 R4
    refine (K3'.out _ w5.heap.size (by simp) (cell_new w5 _ _)).mono ?_
    rintro e w6 ⟨A6, c6, q', er', hq', rfl, hB⟩
    have L5 := (Below.refl w5.heap.size w5).alloc (Nat.le_refl _) (.cells #[.int .i64 4096] 3)
    have hB6 := L5.trans (hB.mono (by simp))
    have S6 := hid (S5.out.below hB6)
    have R6 := hid ((R5.out.below hB6).more hB6.size)
    have Q6 := hid (Blk.below' Q5.out hB6)
    have HQ' := hid hq'
    clear hB hB6 L5 S5 R5 Q5 hq'
    go_wp2_with (refine wpList_storeI rfl 24 (.tmp 12) (.tmp 34) rfl _ 24 [0, 0, 0, 0] q' 4 rfl rfl (IB.new w6 24 [0, 0, 0, 0]) size4 rfl HQ'.out ?_
                 obtain ⟨w7, hw7⟩ : ∃ w7, w7 = (w6.alloc (.cells #[Value.int .i64 0, Value.int .i64 0, Value.int .i64 0, Value.int .i64 0] 24)).setRow w6.heap.size (agi q') := ⟨_, rfl⟩
                 rw [← hw7]
                 have B7 := hid (show Below w6.heap.size w6 w7 by rw [hw7]; exact below_stored w6 (.cells (agi [0, 0, 0, 0]) 24) _)
                 clear hw7)
    have S7 := hid (S6.out.below B7.out)
    have R7 := hid ((R6.out.below B7.out).more B7.out.size)
    have Q7 := hid (Blk.below' Q6.out B7.out)
    clear S6 R6 Q6
    refine (Same_yes A3 A4 c3 c4 Y.length _ _ Y _ S7.out.R R7.out rfl (by have := HYL.out; have := HC.out; have := HL.out; have := HN.out; omega)).mono ?_
    rintro e w8 ⟨rfl, hB⟩
    have S8 := hid (S7.out.below hB)
    have Q8 := hid (Blk.below' Q7.out hB)
    clear hB S7 Q7 R7
    go_wp2_with (first
      | (refine wpList_loadI rfl 24 (.tmp 6) rfl _ 24 [q0, q1, q2, q3] 4 _ rfl S8.out.Q Try.underlying24 rfl size4 rfl ?_)
      | (refine wpList_loadI rfl 24 (.tmp 9) rfl _ 24 [q0, q1, q2, q3] 4 _ rfl Q8.out Try.underlying24 rfl size4 rfl ?_))
    go_ret
    exact ⟨by simp, S8.out.B⟩
end Go.Proofs.Ytniechgbbkkncaa
