/- Texts that the law rests on, laid together: NearR, PushW, MakeW, PkU, EqS. -/
import Derived.Test.YthoiikkjjaldnaaDoorZadc01a
import Derived.Test.YthoiikkjjaldnaaDoorZ7ba9e8
import Derived.Deep.RegionHeld3
import Derived.Test.YthoiikkjjaldnaaDoorZ56770d
import Derived.Test.YthoiikkjjaldnaaDoorZ694481
import Derived.Test.YthoiikkjjaldnaaDoorZ10bfcc
import Derived.Test.YthoiikkjjaldnaaDoorZ7f3e4a
import Derived.Test.YthoiikkjjaldnaaDoorZ9f109e
import Derived.Test.YthoiikkjjaldnaaDoorZ53f5e2
import Derived.Test.YthoiikkjjaldnaaDoorZ8ebc89
import Derived.Test.YthoiikkjjaldnaaDoorZaa54cf
/- The walk of the reference's nearer. -/
namespace Go.Proofs.YthoiikkjjaldnaaDoor
set_option linter.unusedVariables false
set_option linter.unusedSimpArgs false
set_option maxRecDepth 100000
open Go.RowKit

/-- The number of the value nearest, of those below k. -/
def nearB (vs : List Int) (one c e : Int) : Nat → Int
  | 0 => 0
  | k + 1 => if k = 0 then 0 else if (vs.getD k 0 + vs.getD (k - 1) 0) * e < 2 * one * c then k else nearB vs one c e k
theorem nearB_step (vs : List Int) (one c e : Int) {k : Nat} (h : 0 < k) : nearB vs one c e (k + 1) = if (vs.getD k 0 + vs.getD (k - 1) 0) * e < 2 * one * c then (k : Int) else nearB vs one c e k := by
  rw [nearB, if_neg (by omega)]
theorem nearB_range (vs : List Int) (one c e : Int) (k : Nat) : 0 ≤ nearB vs one c e k ∧ nearB vs one c e k ≤ k := by
  induction k with
  | zero => simp [nearB]
  | succ k ih =>
    unfold nearB
    split
    · omega
    · split <;> omega
theorem mul_small {x y X Y : Int} (h1 : 0 ≤ x) (h2 : x ≤ X) (h3 : -Y ≤ y) (h4 : y ≤ Y) : -(X * Y) ≤ x * y ∧ x * y ≤ X * Y := by
  have hX : 0 ≤ X := by omega
  have hY : 0 ≤ Y := by omega
  have a1 : x * y ≤ x * Y := Int.mul_le_mul_of_nonneg_left h4 h1
  have a2 : x * Y ≤ X * Y := Int.mul_le_mul_of_nonneg_right h2 hY
  have a3 : x * (-Y) ≤ x * y := Int.mul_le_mul_of_nonneg_left h3 h1
  have a4 : x * (-Y) = -(x * Y) := by rw [Int.mul_neg]
  omega

end Go.Proofs.YthoiikkjjaldnaaDoor

/- The walk of package synth's push. -/
namespace Go.Proofs.YthoiikkjjaldnaaDoor
set_option linter.unusedVariables false
set_option linter.unusedSimpArgs false
set_option maxRecDepth 100000
open Go.RowKit

set_option maxHeartbeats 2000000 in
theorem synthpush_any (p : List Int) (x : Int) (w : World) (hp : p.length = 8) :
    Calls Tryd.prog 80 #[.agg (agi p), .int .i64 x] w fun e w' => e = .returned (.agg (agi (pushL p x))) ∧ Below w.heap.size w w' := by
  have hR := results_row1 (fn := Tryd.f80) (p := 4) (ty := 27) rfl
  have I0 := IB.new w 27 p
  have HA := hid (Blk.alloc I0 (.cells (agi Z8) 27))
  have J0 := IB.new (w.alloc (.cells (agi p) 27)) 27 Z8
  simp only [World.size_alloc] at J0
  have HJ := hid J0
  have HB := hid (((Below.refl _ w).alloc (Nat.le_refl _) (.cells (agi p) 27)).alloc (by simp) (.cells (agi Z8) 27))
  rw [z8_eq] at HA HJ HB
  have HP := hid hp
  have hl7 : (p.take 7).length = 7 := by simp [hp]
  have L7 := hid hl7
  obtain ⟨zs, hz⟩ : ∃ zs, zs = p.take 1 ++ p.take 7 ++ p.drop (1 + (p.take 7).length) := ⟨_, rfl⟩
  have hzs : zs.set 0 x = pushL p x := by
    rw [hz, hl7]
    have e8 : p.drop 8 = [] := List.drop_eq_nil_of_le (by omega)
    rw [e8]
    match p, hp with
    | a :: q, _ => simp [pushL]
  have hzl : zs.length = 8 := by rw [hz, hl7]; simp; omega
  have HZ := hid hz
  have HZS := hid hzs
  have HZL := hid hzl
  have c7 : ∀ j, j < 7 → (p.take 7).getD j 0 = p.getD j 0 := fun j hj => by simp [hj]
  have C7 := hid c7
  clear hp hl7 hz hzs hzl c7 I0 J0
  go_enter Tryd.func80, Tryd.ntmps80
  go_wp2
  go_region_law (refine step_copyI rfl (.tmp 5) (.tmp 6) 36 36 rfl Tryd.underlying36 w.heap.size 1 7 7 ⟨w.heap.size, 0, none⟩ 7 8 (by simp [Act.eval, Act.put]) (by simp [Act.eval, Act.put]) 27 p (p.take 7) zs HA.out (by rw [L7.out]; rfl) (fun j hj => by rw [add_zero']; rw [L7.out] at hj; rw [C7.out j hj]; exact IB.cell HA.out j (by rw [HP.out]; omega)) (by rw [L7.out, HP.out]; omega) HZ.out ?_)
  generalize hw4 : World.setRow _ _ _ = w4
  have IA : IB w4 w.heap.size 27 zs := by rw [← hw4]; exact IB.setRow (Blk.drew HA.out) zs
  have IJ : IB w4 (w.heap.size + 1) 27 Z8 := by rw [← hw4]; exact Blk.rowFar (Blk.drew HJ.out) (by omega)
  have IL : Below w.heap.size w w4 := by rw [← hw4]; exact (Below.drew HB.out).trans (below_setRow (Below.refl _ _) (Nat.le_refl _) _)
  have IA := hid IA
  have IJ := hid IJ
  have IL := hid IL
  clear hw4 HA HJ HB
  have c0 := IB.cell IA.out 0 (by rw [HZL.out]; omega)
  have f0 := Blk.frozen IA.out 0
  have IA2 := hid (show IB (w4.setCell ⟨w.heap.size, 0, none⟩ (.int .i64 x)) w.heap.size 27 (pushL p x) by rw [← HZS.out]; exact IB.set_ IA.out 0 x)
  have IJ2 := hid (show IB (w4.setCell ⟨w.heap.size, 0, none⟩ (.int .i64 x)) (w.heap.size + 1) 27 Z8 from Blk.far IJ.out (by show w.heap.size + 1 ≠ w.heap.size; omega) _)
  have IL2 := hid (IL.out.setCell (p := ⟨w.heap.size, 0, none⟩) (Nat.le_refl _) (.int .i64 x))
  have LP := hid (pushL_len HP.out x)
  have FIN := hid (below_setRow IL2.out (g := w.heap.size + 1) (by omega) (agi (pushL p x)))
  have hRow := hid (IB.setRow IJ2.out (pushL p x))
  go_wp2_with (first
    | (refine wpList_loadI rfl 27 (.tmp 2) rfl _ 27 (pushL p x) 8 _ rfl IA2.out Tryd.underlying27 rfl size8 LP.out ?_)
    | (refine wpList_storeI rfl 27 (.tmp 4) (.tmp 10) rfl _ 27 Z8 (pushL p x) 8 rfl rfl IJ2.out size8 rfl LP.out ?_))
  refine bodyPost_ret (v := _) (hR _ _ _ 27 (pushL p x) _ 8 rfl hRow.out Tryd.underlying27 rfl size8 LP.out) rfl ?_
  exact ⟨rfl, FIN.out⟩
end Go.Proofs.YthoiikkjjaldnaaDoor

/- The walks of package synth's Make and Undo. -/
namespace Go.Proofs.YthoiikkjjaldnaaDoor
set_option linter.unusedVariables false
set_option linter.unusedSimpArgs false
set_option maxRecDepth 100000
open Go.RowKit

/-- The answer: a slice, an array in a block, a number. -/
theorem results_mid3 {fn : Func} {p q r : Tmp} {ty : TypeId} (h : fn.results = #[.tmp p, .cell q ty, .tmp r]) (tmps : Array Value) (w : World) (g : Nat) (t : TypeId) (xs : List Int) (d : TypeDesc) (n : Nat)
    (hp : tmps.getD q undef = .pointer (some ⟨g, 0, none⟩)) (hg : IB w g t xs) (hu : Tryd.prog.underlying ty = some d) (hd : isAggD d = true) (hi : (Tryd.prog.info? ty).map (·.size) = some n) (hl : xs.length = n) :
    (results fn tmps).run Tryd.prog w = .ok (.tuple #[tmps.getD p undef, .agg (agi xs), tmps.getD r undef]) w := by
  have hp' : tmps[q]?.getD undef = .pointer (some ⟨g, 0, none⟩) := by simpa using hp
  have hr := run_loadVar_row (P := Tryd.prog) w g t ty (agi xs) (0, 0) d hg hu (by cases d <;> first | rfl | (simp [isAggD] at hd)) (by rw [hi, agi_size, hl])
  simp [results, h, hp', asAddr, hr]

def NewSP (w : World) (ys q : List Int) (er : Int) (e : Ending) (w' : World) : Prop := ∃ A c, e = .returned (.tuple #[.slice A ys.length c, .agg (agi q), .int .i64 er]) ∧ Own w' w.heap.size A c ys ∧ Below w.heap.size w w'

/-- The three boxes: the predictor, the past, the answer's past. -/
structure Sx (w wr : World) (a q : List Int) : Prop where
  A : IB wr w.heap.size 69 a
  P : IB wr (w.heap.size + 1) 27 q
  R : IB wr (w.heap.size + 2) 27 Z8
  bel : Below w.heap.size w wr
theorem Sx.lt {w wr : World} {a q : List Int} (h : Sx w wr a q) : w.heap.size + 3 ≤ wr.heap.size := Blk.lt h.R
theorem Sx.below {w wr wr' : World} {a q : List Int} (h : Sx w wr a q) (hb : Below wr.heap.size wr wr') : Sx w wr' a q :=
  ⟨Blk.below' h.A hb, Blk.below' h.P hb, Blk.below' h.R hb, h.bel.trans (hb.mono (by have := h.lt; omega))⟩
theorem Sx.alloc {w wr : World} {a q : List Int} (h : Sx w wr a q) (o : Obj) : Sx w (wr.alloc o) a q :=
  ⟨Blk.alloc h.A o, Blk.alloc h.P o, Blk.alloc h.R o, h.bel.alloc (by have := h.lt; omega) o⟩
theorem Sx.setP {w wr : World} {a q : List Int} (h : Sx w wr a q) (q2 : List Int) : Sx w (wr.setRow (w.heap.size + 1) (agi q2)) a q2 :=
  ⟨Blk.rowFar h.A (by omega), IB.setRow h.P q2, Blk.rowFar h.R (by omega), below_setRow h.bel (by omega) _⟩
theorem Sx.drew {w wr : World} {a q : List Int} (h : Sx w wr a q) : Sx w wr.drew a q := ⟨h.A, h.P, h.R, h.bel.drew⟩
theorem Sx.start (w : World) (a q : List Int) : Sx w (((w.alloc (.cells (agi a) 69)).alloc (.cells (agi q) 27)).alloc (.cells (agi Z8) 27)) a q := by
  have h1 := IB.new w 69 a
  have h2 := IB.new (w.alloc (.cells (agi a) 69)) 27 q
  have h3 := IB.new ((w.alloc (.cells (agi a) 69)).alloc (.cells (agi q) 27)) 27 Z8
  simp only [World.size_alloc] at h2 h3
  exact ⟨Blk.alloc (Blk.alloc h1 _) _, Blk.alloc h2 _, h3, ((((Below.refl _ _).alloc (Nat.le_refl _) _).alloc (by simp) _).alloc (by simp; omega) _)⟩
theorem Sx.grown {w wr wr' : World} {a q xs : List Int} {A : Option Addr} {c : Nat} (h : Sx w wr a q) (hO : Own wr (w.heap.size + 3) A c xs) (hG : wr.grownBy wr' (A.map (·.block))) : Sx w wr' a q :=
  ⟨Blk.grownA h.A hG (hO.ne_ (by omega)), Blk.grownA h.P hG (hO.ne_ (by omega)), Blk.grownA h.R hG (hO.ne_ (by omega)),
    below_grown h.bel (hO.more (by omega)) hG (by have := h.lt; omega)⟩

theorem list8 {q : List Int} (h : q.length = 8) : ∃ q0 q1 q2 q3 q4 q5 q6 q7, q = [q0, q1, q2, q3, q4, q5, q6, q7] := by
  match q, h with
  | [a, b, c, d, e, f, g, i], _ => exact ⟨a, b, c, d, e, f, g, i, rfl⟩
theorem IB.set8 {w : World} {g : Nat} {t : TypeId} (h : IB w g t Z8) (q0 q1 q2 q3 q4 q5 q6 q7 : Int) :
    IB ((((((((w.setCell ⟨g, 0, none⟩ (.int .i64 q0)).setCell ⟨g, 1, none⟩ (.int .i64 q1)).setCell ⟨g, 2, none⟩ (.int .i64 q2)).setCell ⟨g, 3, none⟩ (.int .i64 q3)).setCell ⟨g, 4, none⟩ (.int .i64 q4)).setCell ⟨g, 5, none⟩ (.int .i64 q5)).setCell ⟨g, 6, none⟩ (.int .i64 q6)).setCell ⟨g, 7, none⟩ (.int .i64 q7)) g t [q0, q1, q2, q3, q4, q5, q6, q7] :=
  (((((((h.set_ 0 q0).set_ 1 q1).set_ 2 q2).set_ 3 q3).set_ 4 q4).set_ 5 q5).set_ 6 q6).set_ 7 q7
theorem below_set8 {w0 w : World} {B g : Nat} (h : Below B w0 w) (hg : B ≤ g) (q0 q1 q2 q3 q4 q5 q6 q7 : Int) :
    Below B w0 ((((((((w.setCell ⟨g, 0, none⟩ (.int .i64 q0)).setCell ⟨g, 1, none⟩ (.int .i64 q1)).setCell ⟨g, 2, none⟩ (.int .i64 q2)).setCell ⟨g, 3, none⟩ (.int .i64 q3)).setCell ⟨g, 4, none⟩ (.int .i64 q4)).setCell ⟨g, 5, none⟩ (.int .i64 q5)).setCell ⟨g, 6, none⟩ (.int .i64 q6)).setCell ⟨g, 7, none⟩ (.int .i64 q7)) :=
  (((((((h.setCell (p := ⟨g, 0, none⟩) hg _).setCell (p := ⟨g, 1, none⟩) hg _).setCell (p := ⟨g, 2, none⟩) hg _).setCell (p := ⟨g, 3, none⟩) hg _).setCell (p := ⟨g, 4, none⟩) hg _).setCell (p := ⟨g, 5, none⟩) hg _).setCell (p := ⟨g, 6, none⟩) hg _).setCell (p := ⟨g, 7, none⟩) hg _
theorem Own.set8 {w : World} {base c g : Nat} {A : Option Addr} {xs : List Int} (h : Own w base A c xs) (hg : g < base) (q0 q1 q2 q3 q4 q5 q6 q7 : Int) :
    Own ((((((((w.setCell ⟨g, 0, none⟩ (.int .i64 q0)).setCell ⟨g, 1, none⟩ (.int .i64 q1)).setCell ⟨g, 2, none⟩ (.int .i64 q2)).setCell ⟨g, 3, none⟩ (.int .i64 q3)).setCell ⟨g, 4, none⟩ (.int .i64 q4)).setCell ⟨g, 5, none⟩ (.int .i64 q5)).setCell ⟨g, 6, none⟩ (.int .i64 q6)).setCell ⟨g, 7, none⟩ (.int .i64 q7)) base A c xs :=
  (((((((h.setC hg 0 _).setC hg 1 _).setC hg 2 _).setC hg 3 _).setC hg 4 _).setC hg 5 _).setC hg 6 _).setC hg 7 _

set_option maxHeartbeats 4000000 in
theorem synthMake_any (a p l : List Int) (A0 : Option Addr) (c0 n : Nat) (w : World) (ha : a.length = 9) (hp : p.length = 8) (hr : Rs w w.heap.size A0 l) (hn : l.length = n) (hl : n ≤ 17592186044000) :
    Calls Tryd.prog 48 #[.agg (agi a), .agg (agi p), .slice A0 n c0] w (NewSP w (if goodF a p l then makeN a p l n else []) (if goodF a p l then newL p (makeN a p l n) else Z8) (errOf (goodF a p l))) := by
  have hR := results_mid3 (fn := Tryd.f48) (p := 6) (q := 7) (r := 8) (ty := 27) rfl
  have S0 := Sx.start w a p
  have R0 := hr.below S0.bel
  rw [z8_eq] at S0
  rw [z8_eq] at R0
  have S0 := hid S0
  have R0 := hid R0
  have HA := hid ha
  have HP := hid hp
  have HN := hid hn
  have HR := hid hr
  have KG := hid (fun (W : World) (hW : Rs W W.heap.size A0 l) => synthgood_any a p l A0 c0 n 0 W ha hp hW hn (by omega))
  clear ha hp hn hr
  obtain ⟨Y, hY⟩ : ∃ Y, Y = (if goodF a p l then makeN a p l n else []) := ⟨_, rfl⟩
  obtain ⟨Z, hZ⟩ : ∃ Z, Z = (if goodF a p l then newL p (makeN a p l n) else Z8) := ⟨_, rfl⟩
  rw [← hY, ← hZ]
  have HYY := hid hY
  have HZZ := hid hZ
  clear hY hZ
  go_enter Tryd.func48, Tryd.ntmps48
  go_wp2_with (first
    | (refine wpList_loadI rfl 69 (.tmp 3) rfl _ 69 a 9 _ rfl S0.out.A Tryd.underlying69 rfl size9 HA.out ?_)
    | (refine wpList_loadI rfl 27 (.tmp 4) rfl _ 27 p 8 _ rfl S0.out.P Tryd.underlying27 rfl size8 HP.out ?_))
  refine (KG.out _ (R0.out.more (by simp; omega))).mono ?_
  rintro e w1 ⟨rfl, hB⟩
  have S1 := hid (S0.out.below hB)
  clear hB S0 R0 KG
  by_cases hg : goodF a p l = true
  · have HG := hid hg
    rw [hg]
    have y1 := HYY.out
    have z1 := HZZ.out
    rw [if_pos hg] at y1 z1
    have HY1 := hid y1
    have HZ1 := hid z1
    clear y1 z1
    obtain ⟨ga, gz, gp, gl⟩ : okP a = true ∧ a.getD 0 0 = 4096 ∧ all16 p = true ∧ all16 l = true := by simpa [goodF] using hg
    have GA := hid ga
    have GP := hid gp
    have GL := hid gl
    clear hg ga gz gp gl
    go_wp2
    go_loopw [9, 21] (fun ov iv wr => ∃ (k : Nat) (A : Option Addr) (c : Nat) (q ys : List Int), k ≤ n ∧ iv = .int .i64 k ∧ ov = .slice A k c ∧ Hid (ys = makeN a p l k) ∧ Hid (q = newL p (makeN a p l k)) ∧ Hid (Own wr (w.heap.size + 3) A c ys) ∧ Hid (Sx w wr a q)) (fun _ iv _ => n - (intOf iv).toNat)
    case atStart => exact ⟨0, none, 0, p, [], by omega, rfl, rfl, hid rfl, hid rfl, hid Own.nil, S1⟩
    case round =>
      clear S1
      obtain ⟨k, A, c, q, ys, hk, rfl, rfl, HY, HQ, HO, HS⟩ := hrel
      have HQL := hid (show q.length = 8 by rw [HQ.out]; exact newL_len _ _ HP.out)
      by_cases hlt : k < n
      · have q16 := hid (show all16 q = true by rw [HQ.out]; exact newL_all _ _ GP.out (makeN_all _ _ _ _))
        obtain ⟨ad, rfl, hadb, c1⟩ := (HR.out.below HS.out.bel).at_ (k := k) (by rw [HN.out]; exact hlt)
        have xb := all16_at GL.out k
        have YN := hid (show ys ++ [s16 (l.getD k 0 - guessL a q)] = makeN a p l (k + 1) by rw [makeN, ← HY.out, HQ.out, HY.out])
        obtain ⟨x, hx⟩ : ∃ x, x = l.getD k 0 := ⟨_, rfl⟩
        rw [← hx] at c1 xb YN
        have gb := guess_bound GA.out q16.out
        have K1 := hid (fun W => synthguess_any a q W HA.out HQL.out GA.out q16.out)
        generalize guessL a q = g at *
        obtain ⟨x1, x2⟩ := xb
        obtain ⟨g1, g2⟩ := gb
        have hw1 : IntKind.i64.wrap (x - g) = x - g := by rw [IntKind.wrap_i64]; omega
        obtain ⟨y, hy⟩ : ∃ y, y = s16 (x - g) := ⟨_, rfl⟩
        rw [← hy] at YN
        have KS := hid (fun W => synthsat_any (x - g) W)
        rw [← hy] at KS
        have QN := hid (show pushL q y = newL p (makeN a p l (k + 1)) by rw [← YN.out, HY.out, newL_snoc, HQ.out])
        have LP := hid (pushL_len HQL.out y)
        have HX := hid hx
        have YL := hid (show ys.length = k by rw [HY.out, makeN_len])
        clear hx hy
        go_wp2_with (first
          | (refine wpList_loadI rfl 69 (.tmp 3) rfl _ 69 a 9 _ rfl HS.out.A Tryd.underlying69 rfl size9 HA.out ?_)
          | (refine wpList_loadI rfl 27 (.tmp 4) rfl _ 27 q 8 _ rfl HS.out.P Tryd.underlying27 rfl size8 HQL.out ?_))
        refine (K1.out _).mono ?_
        rintro e w2 ⟨rfl, hB⟩
        have S2 := hid (HS.out.below hB)
        have O2 := hid (HO.out.below hB)
        clear hB HS HO c1
        go_wp2_with (first
          | (go_at_call 78; refine (KS.out _).mono ?_; rintro e w' ⟨rfl, rfl⟩)
          | (refine wpList_loadI rfl 27 (.tmp 4) rfl _ 27 q 8 _ rfl S2.out.P Tryd.underlying27 rfl size8 HQL.out ?_))
        refine (synthpush_any q y _ HQL.out).mono ?_
        rintro e w3 ⟨rfl, hB⟩
        have S3 := hid (S2.out.below hB)
        have O3 := hid (O2.out.below hB)
        clear hB S2 O2
        go_wp2_with (first
          | (refine wpList_storeI rfl 27 (.tmp 4) (.tmp 33) rfl _ 27 q (pushL q y) 8 rfl rfl S3.out.P size8 HQL.out LP.out ?_
             obtain ⟨w4, hw4⟩ : ∃ w4, w4 = w3.setRow (w.heap.size + 1) (agi (pushL q y)) := ⟨_, rfl⟩
             rw [← hw4]
             have S4 := hid (show Sx w w4 a (pushL q y) by rw [hw4]; exact S3.out.setP _)
             have O4 := hid (show Own w4 (w.heap.size + 3) A c ys by rw [hw4]; exact O3.out.setRow (by omega) _)
             clear hw4)
          | (at_builtin; refine wpList_pushN rfl (.tmp 34) (.tmp 36) rfl (w.heap.size + 3) A c k ys rfl YL.out (O4.out.alloc _) ⟨w4.heap.size, 0, none⟩ y rfl (cell_new w4 _ _) (by omega) (Nat.le_trans S4.out.lt (by simp)) ?_; intro A2 c2 w5 hO hG hA; have O5 := hid hO; have G5 := hid hG; clear hO hG hA))
        have S5 := hid ((S4.out.alloc _).grown (O4.out.alloc _) G5.out)
        go_wp2
        go_roundw
        case rel => exact ⟨k + 1, A2, c2, _, _, by omega, by go_num, rfl, YN, QN, O5, S5⟩
        case measure => simp [intOf] <;> omega
      · obtain rfl : k = n := by omega
        obtain ⟨q0, q1, q2, q3, q4, q5, q6, q7, rfl⟩ := list8 HQL.out
        have c0 : wr.cell? ⟨w.heap.size + 1, 0, none⟩ = some (.int .i64 q0) := IB.cell HS.out.P 0 (by simp)
        have c1 : wr.cell? ⟨w.heap.size + 1, 1, none⟩ = some (.int .i64 q1) := IB.cell HS.out.P 1 (by simp)
        have c2 : wr.cell? ⟨w.heap.size + 1, 2, none⟩ = some (.int .i64 q2) := IB.cell HS.out.P 2 (by simp)
        have c3 : wr.cell? ⟨w.heap.size + 1, 3, none⟩ = some (.int .i64 q3) := IB.cell HS.out.P 3 (by simp)
        have c4 : wr.cell? ⟨w.heap.size + 1, 4, none⟩ = some (.int .i64 q4) := IB.cell HS.out.P 4 (by simp)
        have c5 : wr.cell? ⟨w.heap.size + 1, 5, none⟩ = some (.int .i64 q5) := IB.cell HS.out.P 5 (by simp)
        have c6 : wr.cell? ⟨w.heap.size + 1, 6, none⟩ = some (.int .i64 q6) := IB.cell HS.out.P 6 (by simp)
        have c7 : wr.cell? ⟨w.heap.size + 1, 7, none⟩ = some (.int .i64 q7) := IB.cell HS.out.P 7 (by simp)
        have r0 : wr.cell? ⟨w.heap.size + 1 + 1, 0, none⟩ = some (.int .i64 0) := IB.cell HS.out.R 0 (by decide)
        have r1 : wr.cell? ⟨w.heap.size + 1 + 1, 1, none⟩ = some (.int .i64 0) := IB.cell HS.out.R 1 (by decide)
        have r2 : wr.cell? ⟨w.heap.size + 1 + 1, 2, none⟩ = some (.int .i64 0) := IB.cell HS.out.R 2 (by decide)
        have r3 : wr.cell? ⟨w.heap.size + 1 + 1, 3, none⟩ = some (.int .i64 0) := IB.cell HS.out.R 3 (by decide)
        have r4 : wr.cell? ⟨w.heap.size + 1 + 1, 4, none⟩ = some (.int .i64 0) := IB.cell HS.out.R 4 (by decide)
        have r5 : wr.cell? ⟨w.heap.size + 1 + 1, 5, none⟩ = some (.int .i64 0) := IB.cell HS.out.R 5 (by decide)
        have r6 : wr.cell? ⟨w.heap.size + 1 + 1, 6, none⟩ = some (.int .i64 0) := IB.cell HS.out.R 6 (by decide)
        have r7 : wr.cell? ⟨w.heap.size + 1 + 1, 7, none⟩ = some (.int .i64 0) := IB.cell HS.out.R 7 (by decide)
        have f0 : wr.frozen? ⟨w.heap.size + 1 + 1, 0, none⟩ = false := Blk.frozen HS.out.R 0
        have f1 : wr.frozen? ⟨w.heap.size + 1 + 1, 1, none⟩ = false := Blk.frozen HS.out.R 1
        have f2 : wr.frozen? ⟨w.heap.size + 1 + 1, 2, none⟩ = false := Blk.frozen HS.out.R 2
        have f3 : wr.frozen? ⟨w.heap.size + 1 + 1, 3, none⟩ = false := Blk.frozen HS.out.R 3
        have f4 : wr.frozen? ⟨w.heap.size + 1 + 1, 4, none⟩ = false := Blk.frozen HS.out.R 4
        have f5 : wr.frozen? ⟨w.heap.size + 1 + 1, 5, none⟩ = false := Blk.frozen HS.out.R 5
        have f6 : wr.frozen? ⟨w.heap.size + 1 + 1, 6, none⟩ = false := Blk.frozen HS.out.R 6
        have f7 : wr.frozen? ⟨w.heap.size + 1 + 1, 7, none⟩ = false := Blk.frozen HS.out.R 7
        have IR := hid (Blk.drew (IB.set8 HS.out.R q0 q1 q2 q3 q4 q5 q6 q7))
        have OR := hid ((HO.out.set8 (g := w.heap.size + 2) (by omega) q0 q1 q2 q3 q4 q5 q6 q7).drew.more (base' := w.heap.size) (by omega))
        have BR := hid (below_set8 HS.out.bel (g := w.heap.size + 2) (by omega) q0 q1 q2 q3 q4 q5 q6 q7).drew
        have FY := hid (show Y = ys by rw [HY1.out, HY.out])
        have FZ := hid (show Z = [q0, q1, q2, q3, q4, q5, q6, q7] by rw [HZ1.out, HQ.out])
        have YL := hid (show ys.length = k by rw [HY.out, makeN_len])
        go_wp2
        go_region
        clear c0 c1 c2 c3 c4 c5 c6 c7 r0 r1 r2 r3 r4 r5 r6 r7 f0 f1 f2 f3 f4 f5 f6 f7
        simp only [Exit.then]
        go_wp2
        refine bodyPost_ret (v := _) (hR _ _ _ 27 [q0, q1, q2, q3, q4, q5, q6, q7] _ 8 rfl IR.out Tryd.underlying27 rfl size8 rfl) rfl ?_
        exact ⟨A, c, by rw [FY.out, FZ.out, YL.out, HG.out]; rfl, by rw [FY.out]; exact OR.out, BR.out⟩
  · have hb : goodF a p l = false := by simpa using hg
    rw [hb]
    have hRow := hid (S1.out.R)
    go_wp2_with (refine wpList_storeI rfl 27 (.tmp 7) (.tmp 18) rfl _ 27 Z8 Z8 8 rfl rfl S1.out.R size8 rfl rfl ?_)
    refine bodyPost_ret (v := _) (hR _ _ _ 27 Z8 _ 8 rfl (IB.setRow S1.out.R Z8) Tryd.underlying27 rfl size8 rfl) rfl ?_
    have y1 := HYY.out
    have z1 := HZZ.out
    rw [if_neg hg] at y1 z1
    subst y1
    subst z1
    exact ⟨none, 0, by rw [hb]; rfl, Own.nil, below_setRow S1.out.bel (by omega) _⟩
end Go.Proofs.YthoiikkjjaldnaaDoor

/- Plain law: what is packed is unpacked as it was. -/
namespace Go.Proofs.YthoiikkjjaldnaaDoor
set_option linter.unusedVariables false
set_option linter.unusedSimpArgs false
set_option maxRecDepth 100000
open Go.RowKit

theorem dig_join (V e : Nat) : V / 2 ^ (e + 8) * 256 + digE V e = V / 2 ^ e := by
  unfold digE
  rw [Nat.pow_add, ← Nat.div_div_eq_div_mul, show (2 : Nat) ^ 8 = 256 from rfl]
  omega
theorem nb_digL {V : Nat} (hV : V < 2 ^ 112) (c : Int) : ∀ k, k ≤ 14 → nb (digL V ++ [c]) k = V / 2 ^ (8 * (14 - k))
  | 0, _ => by
    rw [show 8 * (14 - 0) = 112 from rfl, Nat.div_eq_of_lt hV]; rfl
  | k + 1, hk => by
    have ih := nb_digL hV c k (by omega)
    have hd : (digL V ++ [c]).getD k 0 = (digE V (8 * (13 - k)) : Nat) := by
      rw [List.getD_eq_getElem?_getD, List.getElem?_append_left (by rw [digL_len]; omega), digL_get V (by omega)]; rfl
    simp only [nb]
    rw [ih, hd, show 8 * (14 - k) = 8 * (13 - k) + 8 by omega, show 14 - (k + 1) = 13 - k by omega]
    exact dig_join V _
section
variable {ps : List Int}
theorem pkBytes_yes (h : pkTo ps 25 = true) : pkBytes ps = digL (pkW ps) ++ [chk (digL (pkW ps))] := if_pos h
theorem pkBytes_len (h : pkTo ps 25 = true) : (pkBytes ps).length = 15 := by rw [pkBytes_yes h, List.length_append, digL_len]; rfl
theorem unV_pack (h : pkTo ps 25 = true) : unV (pkBytes ps) = pkW ps := by
  unfold unV
  rw [pkBytes_yes h, nb_digL (pkW_lt h) _ 14 (by omega)]
  simp
theorem pkX_div (h : pkTo ps 25 = true) : ∀ d, d ≤ 25 → pkX ps (25 - d) = pkW ps / 2 ^ (112 - pkA (25 - d))
  | 0, _ => by
    have hq : pkQ ps < 2 := Nat.mod_lt _ (by decide)
    rw [show 25 - 0 = 25 from rfl, pkA_end, pkW_eq h, show (112 - 106 : Nat) = 6 from rfl]
    omega
  | d + 1, hd => by
    have ih := pkX_div h d (by omega)
    obtain ⟨n, hn⟩ : ∃ n, 25 - (d + 1) = n := ⟨_, rfl⟩
    have e : 25 - d = n + 1 := by omega
    rw [hn]
    rw [e] at ih
    have hp := (pk_lt h (n := n) (by omega)).1
    have ha := pkA_le (n := n + 1) (by omega)
    simp only [pkX, pkA] at ih ha
    have h1 : pkX ps n = (pkX ps n * 2 ^ pkN n + (ps.getD n 0).toNat) / 2 ^ pkN n := by
      rw [Nat.add_comm, Nat.add_mul_div_right _ _ (Nat.two_pow_pos _), Nat.div_eq_of_lt hp, Nat.zero_add]
    rw [h1, ih, Nat.div_div_eq_div_mul, ← Nat.pow_add, show 112 - (pkA n + pkN n) + pkN n = 112 - pkA n by omega]
theorem uF_pack (h : pkTo ps 25 = true) {n : Nat} (hn : n < 25) : uF (pkW ps) n = (ps.getD n 0).toNat := by
  have h1 := pkX_div h (25 - (n + 1)) (by omega)
  rw [show 25 - (25 - (n + 1)) = n + 1 by omega] at h1
  have hp := (pk_lt h hn).1
  unfold uF gt
  rw [Nat.shiftRight_eq_div_pow, show 112 - pkA n - pkN n = 112 - pkA (n + 1) by simp only [pkA]; omega, ← h1]
  simp only [pkX]
  rw [Nat.add_comm, Nat.add_mul_mod_self_right, Nat.mod_eq_of_lt hp]
theorem uL_pack (h : pkTo ps 25 = true) (hl : ps.length = 25) : uL (pkW ps) 25 = ps := by
  refine list_ext (by rw [uL_len, hl]) fun k hk => ?_
  rw [uL_len] at hk
  unfold uL
  rw [map_range_get _ hk, if_pos hk, uF_pack h hk]
  exact (pk_lt h hk).2.symm
theorem pk_round (h : pkTo ps 25 = true) (hl : ps.length = 25) : unE (pkBytes ps) = 0 ∧ unL (pkBytes ps) = ps := by
  have e0 : unE (pkBytes ps) = 0 := by
    unfold unE
    rw [if_neg (by rw [pkBytes_len h]; simp), if_neg, if_neg, if_neg, if_neg]
    · rw [unV_pack h, uL_pack h hl, pkQ_eq]
      have hq : pkQ ps < 2 := Nat.mod_lt _ (by decide)
      rw [pkW_eq h]
      have : (pkX ps 25 * 2 + pkQ ps) * 2 ^ 5 / 32 % 2 = pkQ ps := by omega
      rw [this]
      simp
    · rw [unV_pack h, uL_pack h hl, h]; simp
    · rw [unV_pack h, pkW_eq h]; omega
    · rw [pkBytes_yes h, List.take_append_of_le_length (by rw [digL_len]; omega), List.take_of_length_le (by rw [digL_len]; omega)]
      rw [List.getD_eq_getElem?_getD, List.getElem?_append_right (by rw [digL_len]; omega), digL_len]
      simp
  refine ⟨e0, ?_⟩
  unfold unL
  rw [if_pos e0, unV_pack h, uL_pack h hl]
end
end Go.Proofs.YthoiikkjjaldnaaDoor

/- Two structs of numbers and arrays that are the same. -/
namespace Go.Proofs.YthoiikkjjaldnaaDoor
set_option linter.unusedVariables false
set_option linter.unusedSimpArgs false
set_option maxRecDepth 100000
open Go.RowKit

theorem eqFields_self (d : Nat) (xs : Array Value) : ∀ fs : List Field, (∀ f ∈ fs, ∃ v, (∀ w, (part f.type xs f.offset).run Tryd.prog w = .ok v w) ∧ ∀ w, (Op.equalIn d f.type v v).run Tryd.prog w = .ok true w) → ∀ w, (Op.eqFields d xs xs fs).run Tryd.prog w = .ok true w
  | [], _, w => by simp [Op.eqFields]
  | f :: fs, h, w => by
    obtain ⟨v, h1, h2⟩ := h f (by simp)
    have ih := eqFields_self d xs fs (fun g hg => h g (by simp [hg])) w
    simp only [Op.eqFields, Sem.run_bind, Sem.run_ite]
    split
    · simp only [h1, h2, Result.andThen_ok, Bool.not_true, Bool.false_eq_true, if_false]
      exact ih
    · exact ih
theorem part_row {t : TypeId} {n o : Nat} (hs : ∀ w, (sizeOf t).run Tryd.prog w = .ok n w) (ha : ∀ w, (isAgg t).run Tryd.prog w = .ok true w) (cs A xs B : List Value) (he : cs = A ++ (xs ++ B)) (ho : A.length = o) (hl : xs.length = n) (w : World) :
    (part t cs.toArray o).run Tryd.prog w = .ok (.agg xs.toArray) w := by
  subst he
  subst ho
  subst hl
  have e : (A ++ (xs ++ B)).toArray.extract A.length (A.length + xs.length) = xs.toArray := by
    simp [List.extract_toArray]
  simp only [part, Sem.run_bind, ha, hs, Result.andThen_ok, if_true, Sem.run_pure, e]
theorem part_cell {t : TypeId} {o : Nat} (ha : ∀ w, (isAgg t).run Tryd.prog w = .ok false w) (cs A B : List Value) (v : Value) (he : cs = A ++ (v :: B)) (ho : A.length = o) (w : World) :
    (part t cs.toArray o).run Tryd.prog w = .ok v w := by
  subst he
  subst ho
  simp [part, ha]
theorem eql_struct {t : TypeId} (ht : Tryd.prog.underlying t = some (.struct (Tryd.prog.fieldsOf t))) (hp : Tryd.prog.stoodInHeld t = false) (xs : Array Value)
    (h : ∀ f ∈ (Tryd.prog.fieldsOf t).toList, ∃ v, (∀ w, (part f.type xs f.offset).run Tryd.prog w = .ok v w) ∧ ∀ w, (Op.equalIn 9999 f.type v v).run Tryd.prog w = .ok true w) (w : World) :
    (binOp .eql t (.agg xs) (.agg xs)).run Tryd.prog w = .ok (.bool true) w := by
  rw [run_eql_struct, run_equalIn_struct w 9999 t xs xs ht hp, eqFields_self 9999 xs _ h w]
  rfl
theorem eqi (x : Int) (w : World) : (Op.equalIn 9999 3 (.int .i64 x) (.int .i64 x)).run Tryd.prog w = .ok true w := by
  rw [run_equalIn_int w 9998 3 .i64 .i64 _ _ Tryd.underlying3]
  simp
theorem eqb (x : Bool) (w : World) : (Op.equalIn 9999 4 (.bool x) (.bool x)).run Tryd.prog w = .ok true w := by
  rw [run_equalIn_bool' w 9998 4 _ _ Tryd.underlying4]
  simp
/-- A memory is the same as itself. -/
theorem run_eql_mem (m : Mm) (k : m.ok) (w : World) : (binOp .eql 30 (.agg m.ag) (.agg m.ag)).run Tryd.prog w = .ok (.bool true) w := by
  refine eql_struct (by kernel_rfl) (by kernel_rfl) _ (fun f hf => ?_) w
  have hm : (f.type, f.offset) ∈ [(27, 0), (27, 8), (28, 16), (3, 96), (3, 97), (3, 98), (3, 99), (3, 100), (4, 101)] := by
    have e : (Tryd.prog.fieldsOf 30).toList.map (fun f => (f.type, f.offset)) = [(27, 0), (27, 8), (28, 16), (3, 96), (3, 97), (3, 98), (3, 99), (3, 100), (4, 101)] := by kernel_rfl
    rw [← e]
    exact List.mem_map_of_mem hf
  simp only [List.mem_cons, List.not_mem_nil, or_false, Prod.mk.injEq] at hm
  have l16 : (ints m.r ++ ints m.p).length = 16 := by simp only [List.length_append, ints_len, k.r, k.p]
  have l96 : (ints m.r ++ (ints m.p ++ ints m.e)).length = 96 := by simp only [List.length_append, ints_len, k.r, k.p, k.e]
  have e96 : m.cs = (ints m.r ++ (ints m.p ++ ints m.e)) ++ m.tl := by unfold Mm.cs Mm.tl; simp only [List.append_assoc]
  have ic : ∀ (o : Nat) (A B : List Value) (x : Int), m.tl = A ++ (.int .i64 x :: B) → 96 + A.length = o → ∃ v, (∀ w, (part 3 m.ag o).run Tryd.prog w = .ok v w) ∧ ∀ w, (Op.equalIn 9999 3 v v).run Tryd.prog w = .ok true w := fun o A B x hx ho =>
    ⟨.int .i64 x, fun w => part_cell (fun _ => by kernel_rfl) m.cs ((ints m.r ++ (ints m.p ++ ints m.e)) ++ A) B (.int .i64 x) (by rw [e96, hx]; simp only [List.append_assoc]) (by rw [List.length_append, l96, ho]) w, eqi x⟩
  rcases hm with ⟨h1, h2⟩ | ⟨h1, h2⟩ | ⟨h1, h2⟩ | ⟨h1, h2⟩ | ⟨h1, h2⟩ | ⟨h1, h2⟩ | ⟨h1, h2⟩ | ⟨h1, h2⟩ | ⟨h1, h2⟩ <;> rw [h1, h2]
  · exact ⟨.agg (agi m.r), fun w => part_row (n := 8) (fun _ => by kernel_rfl) (fun _ => by kernel_rfl) m.cs [] (ints m.r) _ rfl rfl (by rw [ints_len, k.r]) w, fun w => run_equalIn_agi 9997 Tryd.underlying27 _ k.r w⟩
  · exact ⟨.agg (agi m.p), fun w => part_row (n := 8) (fun _ => by kernel_rfl) (fun _ => by kernel_rfl) m.cs (ints m.r) (ints m.p) _ rfl (by rw [ints_len, k.r]) (by rw [ints_len, k.p]) w, fun w => run_equalIn_agi 9997 Tryd.underlying27 _ k.p w⟩
  · exact ⟨.agg (agi m.e), fun w => part_row (n := 80) (fun _ => by kernel_rfl) (fun _ => by kernel_rfl) m.cs (ints m.r ++ ints m.p) (ints m.e) m.tl (by unfold Mm.cs Mm.tl; simp only [List.append_assoc]) l16 (by rw [ints_len, k.e]) w, fun w => run_equalIn_agi 9997 Tryd.underlying28 _ k.e w⟩
  · exact ic 96 [] _ m.ga rfl rfl
  · exact ic 97 [_] _ m.pi rfl rfl
  · exact ic 98 [_, _] _ m.la rfl rfl
  · exact ic 99 [_, _, _] _ m.er rfl rfl
  · exact ic 100 [_, _, _, _] _ m.se rfl rfl
  · exact ⟨.bool m.si, fun w => part_cell (fun _ => by kernel_rfl) m.cs ((ints m.r ++ (ints m.p ++ ints m.e)) ++ [.int .i64 m.ga, .int .i64 m.pi, .int .i64 m.la, .int .i64 m.er, .int .i64 m.se]) [] (.bool m.si) (by rw [e96]; unfold Mm.tl; simp only [List.append_assoc]; rfl) (by rw [List.length_append, l96]; rfl) w, eqb m.si⟩
end Go.Proofs.YthoiikkjjaldnaaDoor
