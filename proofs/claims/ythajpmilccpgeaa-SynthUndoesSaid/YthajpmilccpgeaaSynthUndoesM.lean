/- The walks that the law SynthUndoes rests on, in one text. -/
import Derived.Test.YthajpmilccpgeaaLpcM
import Derived.Test.YthajpmilccpgeaaSliceW
import Derived.Test.YthajpmilccpgeaaMakeI
import Derived.Test.YthajpmilccpgeaaRow
import Derived.Test.YthajpmilccpgeaaPushW
import Derived.Test.YthajpmilccpgeaaPushN
import Derived.Deep.RegionHeld3
import Derived.Deep.MidRow
import Derived.Test.YthajpmilccpgeaaDownK
import Derived.Test.YthajpmilccpgeaaEqA
/- Plain facts on the excitation a lag ago. No program in sight. -/
namespace Go.Proofs.Ythajpmilccpgeaa
set_option linter.unusedVariables false
set_option linter.unusedSimpArgs false
set_option maxRecDepth 100000

def pastE (h : List Int) (lag : Nat) (i : Nat) : Int := h.getD (80 - lag + i % lag) 0
def pastB (lag : Int) : Bool := decide (20 ≤ lag ∧ lag ≤ 79)
def pastL (h : List Int) (lag : Int) : List Int := if pastB lag then (List.range 40).map (pastE h lag.toNat) else []
theorem pastB_yes {lag : Int} (h1 : 20 ≤ lag) (h2 : lag ≤ 79) : pastB lag = true := by unfold pastB; simp; omega
theorem pastB_no {lag : Int} (h : lag < 20 ∨ 79 < lag) : pastB lag = false := by unfold pastB; simp; omega
theorem pastL_len {h : List Int} {lag : Int} (hb : pastB lag = true) : (pastL h lag).length = 40 := by unfold pastL; rw [hb]; simp
theorem range_get {n j : Nat} (f : Nat → Int) (h : j < n) : ((List.range n).map f).getD j 0 = f j := by
  rw [List.getD_eq_getElem?_getD, List.getElem?_map, List.getElem?_range h]
  rfl
theorem pastL_get {h : List Int} {lag : Int} (hb : pastB lag = true) (j : Nat) (hj : j < 40) : (pastL h lag).getD j 0 = pastE h lag.toNat j := by
  unfold pastL; rw [if_pos hb, range_get _ hj]
theorem pastE_low {h : List Int} {lag i : Nat} (hi : i < lag) : pastE h lag i = h.getD (80 - lag + i) 0 := by
  unfold pastE; rw [Nat.mod_eq_of_lt hi]
theorem pastE_high {h : List Int} {lag i : Nat} (hi : lag ≤ i) : pastE h lag i = pastE h lag (i - lag) := by
  unfold pastE; rw [Nat.mod_eq_sub_mod hi]
theorem snoc_range {n : Nat} (f : Nat → Int) : (List.range n).map f ++ [f n] = (List.range (n + 1)).map f := by
  rw [List.range_succ, List.map_append]; rfl
end Go.Proofs.Ythajpmilccpgeaa

/- The walks of Past, the program's and the reference's. -/
namespace Go.Proofs.Ythajpmilccpgeaa
set_option linter.unusedVariables false
set_option linter.unusedSimpArgs false
set_option maxRecDepth 100000
open Go.RowKit

/-- What a function answers that gives new numbers and an error. -/
def NewSE (w : World) (xs : List Int) (er : Int) (e : Ending) (w' : World) : Prop := ∃ A c, e = .returned (.tuple #[.slice A xs.length c, .int .i64 er]) ∧ Own w' w.heap.size A c xs ∧ Below w.heap.size w w'
theorem NewSE.none_ {w w' : World} {er : Int} (hB : Below w.heap.size w w') : NewSE w [] er (.returned (.tuple #[.slice none 0 0, .int .i64 er])) w' := ⟨none, 0, rfl, Own.nil, hB⟩

set_option maxHeartbeats 4000000 in
theorem past_any (h : List Int) (lag : Int) (w : World) (hl : h.length = 80) : Calls Try.prog 19 #[.agg (agi h), .int .i64 lag] w (NewSE w (pastL h lag) (errOf (pastB lag))) := by
  by_cases h1 : lag < 20 ∨ 79 < lag
  · rw [show pastL h lag = [] from by unfold pastL; rw [pastB_no h1]; rfl, pastB_no h1]
    have FIN := hid (NewSE.none_ (er := 2) ((Below.refl _ w).alloc (Nat.le_refl _) (.cells (agi h) 26)))
    rcases h1 with h1 | h1
    · have d1 : decide (lag < 20) = true := by simpa using h1
      go_enter Try.func19, Try.ntmps19
      go_wp2
      go_ret2
      exact FIN.out
    · have d1 : decide (lag < 20) = false := by simp; omega
      have d2 : decide (79 < lag) = true := by simpa using h1
      go_enter Try.func19, Try.ntmps19
      go_wp2
      go_ret2
      exact FIN.out
  · have hb : pastB lag = true := pastB_yes (by omega) (by omega)
    have hlen := pastL_len (h := h) hb
    obtain ⟨L, rfl⟩ := Int.eq_ofNat_of_zero_le (show 0 ≤ lag by omega)
    have hP := hid (fun j hj => pastL_get (h := h) hb j hj)
    rw [hb]
    have hL1 : 20 ≤ L := by omega
    have hL2 : L ≤ 79 := by omega
    obtain ⟨E, hE⟩ : ∃ E, E = 80 - L := ⟨_, rfl⟩
    have hEi : (80 : Int) - (L : Nat) = (E : Nat) := by omega
    have hE2 : E + L = 80 := by omega
    have A0 := hid (IB.new w 26 h)
    have d1 : decide ((L : Int) < 20) = false := by simp; omega
    have d2 : decide (79 < (L : Int)) = false := by simp; omega
    have HL := hid hl
    have HN := hid hlen
    have HE := hid hE
    clear h1 hb hl hlen hE
    go_enter Try.func19, Try.ntmps19
    go_wp2_with (at_make; refine wpList_makeI rfl _ _ rfl .i64 .i64 40 rfl rfl w.heap.size (by omega) (by simp) ?_; intro w1 hO hG; have O1 := hid hO; have A1 := hid (Blk.grown A0.out hG (by simp)); have B1 := hid (((Below.refl w.heap.size w).alloc (Nat.le_refl _) (.cells (agi h) 26)).grown hG (by simp) (by simp)); clear hO hG)
    simp only [World.size_alloc] at O1
    go_loopw [17] (fun iv wr => ∃ (k : Nat) (ys : List Int), k ≤ 40 ∧ iv = .int .i64 k ∧ Hid (ys.length = 40 ∧ ∀ j, j < k → ys.getD j 0 = pastE h L j) ∧ Hid (Own wr w.heap.size (some ⟨w.heap.size + 1, 0, none⟩) 40 ys) ∧ Hid (IB wr w.heap.size 26 h) ∧ Hid (Below w.heap.size w wr)) (fun iv _ => 40 - (intOf iv).toNat)
    case atStart => exact ⟨0, _, by omega, rfl, hid ⟨by simp, fun j h => by omega⟩, O1, A1, B1⟩
    case round =>
      clear O1 A1 B1
      obtain ⟨k, ys, hk, rfl, HY, HO, HA, HB⟩ := hrel
      by_cases hlt : k < 40
      · have co := HO.out.cell k (by rw [HY.out.1]; exact hlt)
        have fo := HO.out.frozen k
        have NO := hid (fun v => HO.out.set_ k (by rw [HY.out.1]; exact hlt) v)
        have NA := hid (fun v => Blk.far HA.out (p := ⟨w.heap.size + 1, k, none⟩) (by show w.heap.size ≠ w.heap.size + 1; omega) v)
        have NB := hid (fun v => HB.out.setCell (p := ⟨w.heap.size + 1, k, none⟩) (by show w.heap.size ≤ w.heap.size + 1; omega) v)
        have NEXT := hid (fun (v : Int) (hv : v = pastE h L k) => show Hid ((ys.set k v).length = 40 ∧ ∀ j, j < k + 1 → (ys.set k v).getD j 0 = pastE h L j) from by
          obtain ⟨q1, q3⟩ := HY.out
          refine ⟨by simpa using q1, fun j hj => ?_⟩
          by_cases he : k = j
          · subst he
            rw [get_set_same _ _ _ (by omega), hv]
          · rw [get_set_other _ _ he]
            exact q3 j (by omega))
        by_cases hlow : k < L
        · have ci := HA.out.cell (E + k) (by rw [HL.out]; omega)
          have hEk : E + k < 80 := by omega
          have HV := hid (show h.getD (E + k) 0 = pastE h L k by rw [pastE_low hlow, ← HE.out])
          generalize h.getD (E + k) 0 = x at *
          go_wp2
          go_roundw
          case rel => exact ⟨k + 1, _, by omega, by go_num, NEXT.out _ HV.out, NO.out _, hid (NA.out _), hid (NB.out _)⟩
          case measure => simp [intOf] <;> omega
        · obtain ⟨d, hd⟩ : ∃ d, k = L + d := ⟨k - L, by omega⟩
          have hsub : (k : Int) - (L : Nat) = (d : Nat) := by omega
          have cd := HO.out.cell d (by rw [HY.out.1]; omega)
          have hd40 : d < 40 := by omega
          have HV := hid (show ys.getD d 0 = pastE h L k by rw [HY.out.2 d (by omega), pastE_high (h := h) (lag := L) (i := k) (by omega), show k - L = d from by omega])
          have HD := hid hd
          clear hd
          generalize ys.getD d 0 = x at *
          go_wp2
          go_roundw
          case rel => exact ⟨k + 1, _, by omega, by go_num, NEXT.out _ HV.out, NO.out _, hid (NA.out _), hid (NB.out _)⟩
          case measure => simp [intOf] <;> omega
      · obtain rfl : k = 40 := by omega
        have HF := hid (show ys = pastL h (L : Nat) from list_ext (by rw [HY.out.1, HN.out]) (fun j hj => by rw [HY.out.2 j (by rw [HY.out.1] at hj; exact hj), hP.out j (by rw [HY.out.1] at hj; exact hj)]; rfl))
        go_wp2
        go_ret2
        exact ⟨_, _, by rw [HN.out]; rfl, by rw [← HF.out]; exact HO.out, HB.out⟩
end Go.Proofs.Ythajpmilccpgeaa

/- The walks of package synth's Make and Undo. -/
namespace Go.Proofs.Ythajpmilccpgeaa
set_option linter.unusedVariables false
set_option linter.unusedSimpArgs false
set_option maxRecDepth 100000
open Go.RowKit

/-- The answer: a slice, an array in a block, a number. -/
theorem results_mid3 {fn : Func} {p q r : Tmp} {ty : TypeId} (h : fn.results = #[.tmp p, .cell q ty, .tmp r]) (tmps : Array Value) (w : World) (g : Nat) (t : TypeId) (xs : List Int) (d : TypeDesc) (n : Nat)
    (hp : tmps.getD q undef = .pointer (some ⟨g, 0, none⟩)) (hg : IB w g t xs) (hu : Try.prog.underlying ty = some d) (hd : isAggD d = true) (hi : (Try.prog.info? ty).map (·.size) = some n) (hl : xs.length = n) :
    (results fn tmps).run Try.prog w = .ok (.tuple #[tmps.getD p undef, .agg (agi xs), tmps.getD r undef]) w := by
  have hp' : tmps[q]?.getD undef = .pointer (some ⟨g, 0, none⟩) := by simpa using hp
  have hr := run_loadVar_row (P := Try.prog) w g t ty (agi xs) (0, 0) d hg hu (by cases d <;> first | rfl | (simp [isAggD] at hd)) (by rw [hi, agi_size, hl])
  simp [results, h, hp', asAddr, hr]

def NewSP (w : World) (ys q : List Int) (er : Int) (e : Ending) (w' : World) : Prop := ∃ A c, e = .returned (.tuple #[.slice A ys.length c, .agg (agi q), .int .i64 er]) ∧ Own w' w.heap.size A c ys ∧ Below w.heap.size w w'

/-- The three boxes: the predictor, the past, the answer's past. -/
structure Sx (w wr : World) (a q : List Int) : Prop where
  A : IB wr w.heap.size 37 a
  P : IB wr (w.heap.size + 1) 33 q
  R : IB wr (w.heap.size + 2) 33 Z8
  bel : Below w.heap.size w wr
theorem Sx.lt {w wr : World} {a q : List Int} (h : Sx w wr a q) : w.heap.size + 3 ≤ wr.heap.size := Blk.lt h.R
theorem Sx.below {w wr wr' : World} {a q : List Int} (h : Sx w wr a q) (hb : Below wr.heap.size wr wr') : Sx w wr' a q :=
  ⟨Blk.below' h.A hb, Blk.below' h.P hb, Blk.below' h.R hb, h.bel.trans (hb.mono (by have := h.lt; omega))⟩
theorem Sx.alloc {w wr : World} {a q : List Int} (h : Sx w wr a q) (o : Obj) : Sx w (wr.alloc o) a q :=
  ⟨Blk.alloc h.A o, Blk.alloc h.P o, Blk.alloc h.R o, h.bel.alloc (by have := h.lt; omega) o⟩
theorem Sx.setP {w wr : World} {a q : List Int} (h : Sx w wr a q) (q2 : List Int) : Sx w (wr.setRow (w.heap.size + 1) (agi q2)) a q2 :=
  ⟨Blk.rowFar h.A (by omega), IB.setRow h.P q2, Blk.rowFar h.R (by omega), below_setRow h.bel (by omega) _⟩
theorem Sx.drew {w wr : World} {a q : List Int} (h : Sx w wr a q) : Sx w wr.drew a q := ⟨h.A, h.P, h.R, h.bel.drew⟩
theorem Sx.start (w : World) (a q : List Int) : Sx w (((w.alloc (.cells (agi a) 37)).alloc (.cells (agi q) 33)).alloc (.cells (agi Z8) 33)) a q := by
  have h1 := IB.new w 37 a
  have h2 := IB.new (w.alloc (.cells (agi a) 37)) 33 q
  have h3 := IB.new ((w.alloc (.cells (agi a) 37)).alloc (.cells (agi q) 33)) 33 Z8
  simp only [World.size_alloc] at h2 h3
  exact ⟨Blk.alloc (Blk.alloc h1 _) _, Blk.alloc h2 _, h3, ((((Below.refl _ _).alloc (Nat.le_refl _) _).alloc (by simp) _).alloc (by simp; omega) _)⟩
theorem Own.ne_ {w : World} {base c g : Nat} {A : Option Addr} {xs : List Int} (h : Own w base A c xs) (hg : g < base) : ∀ ad, A = some ad → ad.block ≠ g := fun ad e => by
  have := (h.lt ad e).1
  omega
theorem Sx.grown {w wr wr' : World} {a q xs : List Int} {A : Option Addr} {c : Nat} (h : Sx w wr a q) (hO : Own wr (w.heap.size + 3) A c xs) (hG : wr.grownBy wr' (A.map (·.block))) : Sx w wr' a q :=
  ⟨Blk.grownA h.A hG (hO.ne_ (by omega)), Blk.grownA h.P hG (hO.ne_ (by omega)), Blk.grownA h.R hG (hO.ne_ (by omega)),
    below_grown h.bel (hO.more (by omega)) hG (by have := h.lt; omega)⟩
theorem Own.setRow {w : World} {base c g : Nat} {A : Option Addr} {xs : List Int} (h : Own w base A c xs) (hg : g < base) (cs : Array Value) : Own (w.setRow g cs) base A c xs :=
  h.kept (row := some g) ⟨rfl, rfl, rfl, by simp [World.setRow], fun i _ hn => setRow_other w g i cs (by intro e; subst e; exact hn rfl)⟩ (fun ad e h2 => by
    injection h2 with h2
    exact h.ne_ hg ad e h2)

theorem list8 {q : List Int} (h : q.length = 8) : ∃ q0 q1 q2 q3 q4 q5 q6 q7, q = [q0, q1, q2, q3, q4, q5, q6, q7] := by
  match q, h with
  | [a, b, c, d, e, f, g, i], _ => exact ⟨a, b, c, d, e, f, g, i, rfl⟩
theorem IB.set8 {w : World} {g : Nat} {t : TypeId} (h : IB w g t Z8) (q0 q1 q2 q3 q4 q5 q6 q7 : Int) :
    IB ((((((((w.setCell ⟨g, 0, none⟩ (.int .i64 q0)).setCell ⟨g, 1, none⟩ (.int .i64 q1)).setCell ⟨g, 2, none⟩ (.int .i64 q2)).setCell ⟨g, 3, none⟩ (.int .i64 q3)).setCell ⟨g, 4, none⟩ (.int .i64 q4)).setCell ⟨g, 5, none⟩ (.int .i64 q5)).setCell ⟨g, 6, none⟩ (.int .i64 q6)).setCell ⟨g, 7, none⟩ (.int .i64 q7)) g t [q0, q1, q2, q3, q4, q5, q6, q7] :=
  (((((((h.set_ 0 q0).set_ 1 q1).set_ 2 q2).set_ 3 q3).set_ 4 q4).set_ 5 q5).set_ 6 q6).set_ 7 q7
theorem below_set8 {w0 w : World} {B g : Nat} (h : Below B w0 w) (hg : B ≤ g) (q0 q1 q2 q3 q4 q5 q6 q7 : Int) :
    Below B w0 ((((((((w.setCell ⟨g, 0, none⟩ (.int .i64 q0)).setCell ⟨g, 1, none⟩ (.int .i64 q1)).setCell ⟨g, 2, none⟩ (.int .i64 q2)).setCell ⟨g, 3, none⟩ (.int .i64 q3)).setCell ⟨g, 4, none⟩ (.int .i64 q4)).setCell ⟨g, 5, none⟩ (.int .i64 q5)).setCell ⟨g, 6, none⟩ (.int .i64 q6)).setCell ⟨g, 7, none⟩ (.int .i64 q7)) :=
  (((((((h.setCell (p := ⟨g, 0, none⟩) hg _).setCell (p := ⟨g, 1, none⟩) hg _).setCell (p := ⟨g, 2, none⟩) hg _).setCell (p := ⟨g, 3, none⟩) hg _).setCell (p := ⟨g, 4, none⟩) hg _).setCell (p := ⟨g, 5, none⟩) hg _).setCell (p := ⟨g, 6, none⟩) hg _).setCell (p := ⟨g, 7, none⟩) hg _
theorem Own.setC {w : World} {base c g : Nat} {A : Option Addr} {xs : List Int} (h : Own w base A c xs) (hg : g < base) (i : Nat) (v : Value) : Own (w.setCell ⟨g, i, none⟩ v) base A c xs :=
  h.kept (row := some g) ⟨rfl, rfl, rfl, by simp [World.setCell], fun j _ hn => Below.heap_setCell _ _ _ j (by simpa using hn)⟩ (fun ad e h2 => by
    injection h2 with h2
    exact h.ne_ hg ad e h2)
theorem Own.set8 {w : World} {base c g : Nat} {A : Option Addr} {xs : List Int} (h : Own w base A c xs) (hg : g < base) (q0 q1 q2 q3 q4 q5 q6 q7 : Int) :
    Own ((((((((w.setCell ⟨g, 0, none⟩ (.int .i64 q0)).setCell ⟨g, 1, none⟩ (.int .i64 q1)).setCell ⟨g, 2, none⟩ (.int .i64 q2)).setCell ⟨g, 3, none⟩ (.int .i64 q3)).setCell ⟨g, 4, none⟩ (.int .i64 q4)).setCell ⟨g, 5, none⟩ (.int .i64 q5)).setCell ⟨g, 6, none⟩ (.int .i64 q6)).setCell ⟨g, 7, none⟩ (.int .i64 q7)) base A c xs :=
  (((((((h.setC hg 0 _).setC hg 1 _).setC hg 2 _).setC hg 3 _).setC hg 4 _).setC hg 5 _).setC hg 6 _).setC hg 7 _

set_option maxHeartbeats 4000000 in
theorem synthMake_any (a p l : List Int) (A0 : Option Addr) (c0 n : Nat) (w : World) (ha : a.length = 9) (hp : p.length = 8) (hr : Rs w w.heap.size A0 l) (hn : l.length = n) (hl : n ≤ 17592186044000) :
    Calls Try.prog 35 #[.agg (agi a), .agg (agi p), .slice A0 n c0] w (NewSP w (if goodF a p l then makeN a p l n else []) (if goodF a p l then newL p (makeN a p l n) else Z8) (errOf (goodF a p l))) := by
  have hR := results_mid3 (fn := Try.f35) (p := 6) (q := 7) (r := 8) (ty := 33) rfl
  have S0 := Sx.start w a p
  have R0 := hr.below S0.bel
  rw [z8_eq] at S0
  rw [z8_eq] at R0
  have S0 := hid S0
  have R0 := hid R0
  have HA := hid ha
  have HP := hid hp
  have HN := hid hn
  have HR := hid hr
  have KG := hid (fun (W : World) (hW : Rs W W.heap.size A0 l) => synthgood_any a p l A0 c0 n 0 W ha hp hW hn (by omega))
  clear ha hp hn hr
  obtain ⟨Y, hY⟩ : ∃ Y, Y = (if goodF a p l then makeN a p l n else []) := ⟨_, rfl⟩
  obtain ⟨Z, hZ⟩ : ∃ Z, Z = (if goodF a p l then newL p (makeN a p l n) else Z8) := ⟨_, rfl⟩
  rw [← hY, ← hZ]
  have HYY := hid hY
  have HZZ := hid hZ
  clear hY hZ
  go_enter Try.func35, Try.ntmps35
  go_wp2_with (first
    | (refine wpList_loadI rfl 37 (.tmp 3) rfl _ 37 a 9 _ rfl S0.out.A Try.underlying37 rfl size9 HA.out ?_)
    | (refine wpList_loadI rfl 33 (.tmp 4) rfl _ 33 p 8 _ rfl S0.out.P Try.underlying33 rfl size8 HP.out ?_))
  refine (KG.out _ (R0.out.more (by simp; omega))).mono ?_
  rintro e w1 ⟨rfl, hB⟩
  have S1 := hid (S0.out.below hB)
  clear hB S0 R0 KG
  by_cases hg : goodF a p l = true
  · have HG := hid hg
    rw [hg]
    have y1 := HYY.out
    have z1 := HZZ.out
    rw [if_pos hg] at y1 z1
    have HY1 := hid y1
    have HZ1 := hid z1
    clear y1 z1
    obtain ⟨ga, gz, gp, gl⟩ : okP a = true ∧ a.getD 0 0 = 4096 ∧ all16 p = true ∧ all16 l = true := by simpa [goodF] using hg
    have GA := hid ga
    have GP := hid gp
    have GL := hid gl
    clear hg ga gz gp gl
    go_wp2
    go_loopw [9, 21] (fun ov iv wr => ∃ (k : Nat) (A : Option Addr) (c : Nat) (q ys : List Int), k ≤ n ∧ iv = .int .i64 k ∧ ov = .slice A k c ∧ Hid (ys = makeN a p l k) ∧ Hid (q = newL p (makeN a p l k)) ∧ Hid (Own wr (w.heap.size + 3) A c ys) ∧ Hid (Sx w wr a q)) (fun _ iv _ => n - (intOf iv).toNat)
    case atStart => exact ⟨0, none, 0, p, [], by omega, rfl, rfl, hid rfl, hid rfl, hid Own.nil, S1⟩
    case round =>
      clear S1
      obtain ⟨k, A, c, q, ys, hk, rfl, rfl, HY, HQ, HO, HS⟩ := hrel
      have HQL := hid (show q.length = 8 by rw [HQ.out]; exact newL_len _ _ HP.out)
      by_cases hlt : k < n
      · have q16 := hid (show all16 q = true by rw [HQ.out]; exact newL_all _ _ GP.out (makeN_all _ _ _ _))
        obtain ⟨ad, rfl, hadb, c1⟩ := (HR.out.below HS.out.bel).at_ (k := k) (by rw [HN.out]; exact hlt)
        have xb := all16_at GL.out k
        have YN := hid (show ys ++ [s16 (l.getD k 0 - guessL a q)] = makeN a p l (k + 1) by rw [makeN, ← HY.out, HQ.out, HY.out])
        obtain ⟨x, hx⟩ : ∃ x, x = l.getD k 0 := ⟨_, rfl⟩
        rw [← hx] at c1 xb YN
        have gb := guess_bound GA.out q16.out
        have K1 := hid (fun W => synthguess_any a q W HA.out HQL.out GA.out q16.out)
        generalize guessL a q = g at *
        obtain ⟨x1, x2⟩ := xb
        obtain ⟨g1, g2⟩ := gb
        have hw1 : IntKind.i64.wrap (x - g) = x - g := by rw [IntKind.wrap_i64]; omega
        obtain ⟨y, hy⟩ : ∃ y, y = s16 (x - g) := ⟨_, rfl⟩
        rw [← hy] at YN
        have KS := hid (fun W => synthsat_any (x - g) W)
        rw [← hy] at KS
        have QN := hid (show pushL q y = newL p (makeN a p l (k + 1)) by rw [← YN.out, HY.out, newL_snoc, HQ.out])
        have LP := hid (pushL_len HQL.out y)
        have HX := hid hx
        have YL := hid (show ys.length = k by rw [HY.out, makeN_len])
        clear hx hy
        go_wp2_with (first
          | (refine wpList_loadI rfl 37 (.tmp 3) rfl _ 37 a 9 _ rfl HS.out.A Try.underlying37 rfl size9 HA.out ?_)
          | (refine wpList_loadI rfl 33 (.tmp 4) rfl _ 33 q 8 _ rfl HS.out.P Try.underlying33 rfl size8 HQL.out ?_))
        refine (K1.out _).mono ?_
        rintro e w2 ⟨rfl, hB⟩
        have S2 := hid (HS.out.below hB)
        have O2 := hid (HO.out.below hB)
        clear hB HS HO c1
        go_wp2_with (first
          | (go_at_call 63; refine (KS.out _).mono ?_; rintro e w' ⟨rfl, rfl⟩)
          | (refine wpList_loadI rfl 33 (.tmp 4) rfl _ 33 q 8 _ rfl S2.out.P Try.underlying33 rfl size8 HQL.out ?_))
        refine (synthpush_any q y _ HQL.out).mono ?_
        rintro e w3 ⟨rfl, hB⟩
        have S3 := hid (S2.out.below hB)
        have O3 := hid (O2.out.below hB)
        clear hB S2 O2
        go_wp2_with (first
          | (refine wpList_storeI rfl 33 (.tmp 4) (.tmp 33) rfl _ 33 q (pushL q y) 8 rfl rfl S3.out.P size8 HQL.out LP.out ?_
             obtain ⟨w4, hw4⟩ : ∃ w4, w4 = w3.setRow (w.heap.size + 1) (agi (pushL q y)) := ⟨_, rfl⟩
             rw [← hw4]
             have S4 := hid (show Sx w w4 a (pushL q y) by rw [hw4]; exact S3.out.setP _)
             have O4 := hid (show Own w4 (w.heap.size + 3) A c ys by rw [hw4]; exact O3.out.setRow (by omega) _)
             clear hw4)
          | (at_builtin; refine wpList_pushN rfl (.tmp 34) (.tmp 36) rfl (w.heap.size + 3) A c k ys rfl YL.out (O4.out.alloc _) ⟨w4.heap.size, 0, none⟩ y rfl (cell_new w4 _ _) (by omega) (Nat.le_trans S4.out.lt (by simp)) ?_; intro A2 c2 w5 hO hG hA; have O5 := hid hO; have G5 := hid hG; clear hO hG hA))
        have S5 := hid ((S4.out.alloc _).grown (O4.out.alloc _) G5.out)
        go_wp2
        go_roundw
        case rel => exact ⟨k + 1, A2, c2, _, _, by omega, by go_num, rfl, YN, QN, O5, S5⟩
        case measure => simp [intOf] <;> omega
      · obtain rfl : k = n := by omega
        obtain ⟨q0, q1, q2, q3, q4, q5, q6, q7, rfl⟩ := list8 HQL.out
        have c0 : wr.cell? ⟨w.heap.size + 1, 0, none⟩ = some (.int .i64 q0) := IB.cell HS.out.P 0 (by simp)
        have c1 : wr.cell? ⟨w.heap.size + 1, 1, none⟩ = some (.int .i64 q1) := IB.cell HS.out.P 1 (by simp)
        have c2 : wr.cell? ⟨w.heap.size + 1, 2, none⟩ = some (.int .i64 q2) := IB.cell HS.out.P 2 (by simp)
        have c3 : wr.cell? ⟨w.heap.size + 1, 3, none⟩ = some (.int .i64 q3) := IB.cell HS.out.P 3 (by simp)
        have c4 : wr.cell? ⟨w.heap.size + 1, 4, none⟩ = some (.int .i64 q4) := IB.cell HS.out.P 4 (by simp)
        have c5 : wr.cell? ⟨w.heap.size + 1, 5, none⟩ = some (.int .i64 q5) := IB.cell HS.out.P 5 (by simp)
        have c6 : wr.cell? ⟨w.heap.size + 1, 6, none⟩ = some (.int .i64 q6) := IB.cell HS.out.P 6 (by simp)
        have c7 : wr.cell? ⟨w.heap.size + 1, 7, none⟩ = some (.int .i64 q7) := IB.cell HS.out.P 7 (by simp)
        have r0 : wr.cell? ⟨w.heap.size + 1 + 1, 0, none⟩ = some (.int .i64 0) := IB.cell HS.out.R 0 (by decide)
        have r1 : wr.cell? ⟨w.heap.size + 1 + 1, 1, none⟩ = some (.int .i64 0) := IB.cell HS.out.R 1 (by decide)
        have r2 : wr.cell? ⟨w.heap.size + 1 + 1, 2, none⟩ = some (.int .i64 0) := IB.cell HS.out.R 2 (by decide)
        have r3 : wr.cell? ⟨w.heap.size + 1 + 1, 3, none⟩ = some (.int .i64 0) := IB.cell HS.out.R 3 (by decide)
        have r4 : wr.cell? ⟨w.heap.size + 1 + 1, 4, none⟩ = some (.int .i64 0) := IB.cell HS.out.R 4 (by decide)
        have r5 : wr.cell? ⟨w.heap.size + 1 + 1, 5, none⟩ = some (.int .i64 0) := IB.cell HS.out.R 5 (by decide)
        have r6 : wr.cell? ⟨w.heap.size + 1 + 1, 6, none⟩ = some (.int .i64 0) := IB.cell HS.out.R 6 (by decide)
        have r7 : wr.cell? ⟨w.heap.size + 1 + 1, 7, none⟩ = some (.int .i64 0) := IB.cell HS.out.R 7 (by decide)
        have f0 : wr.frozen? ⟨w.heap.size + 1 + 1, 0, none⟩ = false := Blk.frozen HS.out.R 0
        have f1 : wr.frozen? ⟨w.heap.size + 1 + 1, 1, none⟩ = false := Blk.frozen HS.out.R 1
        have f2 : wr.frozen? ⟨w.heap.size + 1 + 1, 2, none⟩ = false := Blk.frozen HS.out.R 2
        have f3 : wr.frozen? ⟨w.heap.size + 1 + 1, 3, none⟩ = false := Blk.frozen HS.out.R 3
        have f4 : wr.frozen? ⟨w.heap.size + 1 + 1, 4, none⟩ = false := Blk.frozen HS.out.R 4
        have f5 : wr.frozen? ⟨w.heap.size + 1 + 1, 5, none⟩ = false := Blk.frozen HS.out.R 5
        have f6 : wr.frozen? ⟨w.heap.size + 1 + 1, 6, none⟩ = false := Blk.frozen HS.out.R 6
        have f7 : wr.frozen? ⟨w.heap.size + 1 + 1, 7, none⟩ = false := Blk.frozen HS.out.R 7
        have IR := hid (Blk.drew (IB.set8 HS.out.R q0 q1 q2 q3 q4 q5 q6 q7))
        have OR := hid ((HO.out.set8 (g := w.heap.size + 2) (by omega) q0 q1 q2 q3 q4 q5 q6 q7).drew.more (base' := w.heap.size) (by omega))
        have BR := hid (below_set8 HS.out.bel (g := w.heap.size + 2) (by omega) q0 q1 q2 q3 q4 q5 q6 q7).drew
        have FY := hid (show Y = ys by rw [HY1.out, HY.out])
        have FZ := hid (show Z = [q0, q1, q2, q3, q4, q5, q6, q7] by rw [HZ1.out, HQ.out])
        have YL := hid (show ys.length = k by rw [HY.out, makeN_len])
        go_wp2
        go_region
        clear c0 c1 c2 c3 c4 c5 c6 c7 r0 r1 r2 r3 r4 r5 r6 r7 f0 f1 f2 f3 f4 f5 f6 f7
        simp only [Exit.then]
        go_wp2
        refine bodyPost_ret (v := _) (hR _ _ _ 33 [q0, q1, q2, q3, q4, q5, q6, q7] _ 8 rfl IR.out Try.underlying33 rfl size8 rfl) rfl ?_
        exact ⟨A, c, by rw [FY.out, FZ.out, YL.out, HG.out]; rfl, by rw [FY.out]; exact OR.out, BR.out⟩
  · have hb : goodF a p l = false := by simpa using hg
    rw [hb]
    have hRow := hid (S1.out.R)
    go_wp2_with (refine wpList_storeI rfl 33 (.tmp 7) (.tmp 18) rfl _ 33 Z8 Z8 8 rfl rfl S1.out.R size8 rfl rfl ?_)
    refine bodyPost_ret (v := _) (hR _ _ _ 33 Z8 _ 8 rfl (IB.setRow S1.out.R Z8) Try.underlying33 rfl size8 rfl) rfl ?_
    have y1 := HYY.out
    have z1 := HZZ.out
    rw [if_neg hg] at y1 z1
    subst y1
    subst z1
    exact ⟨none, 0, by rw [hb]; rfl, Own.nil, below_setRow S1.out.bel (by omega) _⟩
end Go.Proofs.Ythajpmilccpgeaa

/- Blocks of numbers as the drawing regions speak of them: ranges. -/
namespace Go.Proofs.Ythajpmilccpgeaa
set_option linter.unusedVariables false
set_option linter.unusedSimpArgs false
set_option maxRecDepth 100000
open Go.RowKit

section
variable {w w' : World} {g : Nat} {t : TypeId} {xs : List Int} {cs : Array Value}
theorem Blk.rangeAt (h : Blk w g t cs) : w.rangeAt g 0 cs.toList := fun j v hv => by
  rw [Nat.zero_add, Blk.cell h j, ← hv]
  simp
theorem IB.rangeAt (h : IB w g t xs) : w.rangeAt g 0 (ints xs) := by
  have := Blk.rangeAt h
  simpa [agi] using this
theorem Blk.there (h : Blk w g t cs) : w.there g 0 cs.size := fun j hj => by
  rw [Nat.zero_add]
  refine ⟨?_, Blk.frozen h j⟩
  rw [Blk.cell h j]
  simp [hj]
end
theorem rangeAt_alloc_drew {w : World} {b : Nat} {cs : List Value} (h : w.rangeAt b 0 cs) (o : Obj) : (w.alloc o).drew.rangeAt b 0 cs := (World.rangeAt_drew _ _ _ _).2 (World.rangeAt_alloc h o)
theorem rangeAt_far {w : World} {b : Nat} {cs : List Value} (h : w.rangeAt b 0 cs) {p : Addr} (hp : b ≠ p.block) (v : Value) : (w.setCell p v).rangeAt b 0 cs := fun j u hu => by
  rw [World.cell?_setCell_far _ _ _ _ (fun e => hp e.symm)]
  exact h j u hu
theorem rangeAt_far8 {w : World} {b g : Nat} {cs : List Value} (h : w.rangeAt b 0 cs) (hp : b ≠ g) (v0 v1 v2 v3 v4 v5 v6 v7 : Value) : World.rangeAt ((((((((w.setCell ⟨g, 0, none⟩ v0).setCell ⟨g, 1, none⟩ v1).setCell ⟨g, 2, none⟩ v2).setCell ⟨g, 3, none⟩ v3).setCell ⟨g, 4, none⟩ v4).setCell ⟨g, 5, none⟩ v5).setCell ⟨g, 6, none⟩ v6).setCell ⟨g, 7, none⟩ v7) b 0 cs :=
  rangeAt_far (rangeAt_far (rangeAt_far (rangeAt_far (rangeAt_far (rangeAt_far (rangeAt_far (rangeAt_far h hp v0) hp v1) hp v2) hp v3) hp v4) hp v5) hp v6) hp v7
theorem Blk.far8 {w : World} {k g : Nat} {t : TypeId} {cs : Array Value} (h : Blk w k t cs) (hp : k ≠ g) (v0 v1 v2 v3 v4 v5 v6 v7 : Value) : Blk ((((((((w.setCell ⟨g, 0, none⟩ v0).setCell ⟨g, 1, none⟩ v1).setCell ⟨g, 2, none⟩ v2).setCell ⟨g, 3, none⟩ v3).setCell ⟨g, 4, none⟩ v4).setCell ⟨g, 5, none⟩ v5).setCell ⟨g, 6, none⟩ v6).setCell ⟨g, 7, none⟩ v7) k t cs :=
  (((((((h.far (p := ⟨g, 0, none⟩) hp v0).far (p := ⟨g, 1, none⟩) hp v1).far (p := ⟨g, 2, none⟩) hp v2).far (p := ⟨g, 3, none⟩) hp v3).far (p := ⟨g, 4, none⟩) hp v4).far (p := ⟨g, 5, none⟩) hp v5).far (p := ⟨g, 6, none⟩) hp v6).far (p := ⟨g, 7, none⟩) hp v7
end Go.Proofs.Ythajpmilccpgeaa

/- The walk of the reference's newest. -/
namespace Go.Proofs.Ythajpmilccpgeaa
set_option linter.unusedVariables false
set_option linter.unusedSimpArgs false
set_option maxRecDepth 100000
open Go.RowKit

/-- The two boxes and the row that is filled: the past, the answer's, the row. -/
structure Nx (w wr : World) (p ys : List Int) : Prop where
  A : IB wr w.heap.size 33 p
  R : IB wr (w.heap.size + 1) 33 Z8
  O : IB wr (w.heap.size + 2) 33 ys
  bel : Below w.heap.size w wr
theorem Nx.start (w : World) (p : List Int) : Nx w (((w.alloc (.cells (agi p) 33)).alloc (.cells (agi Z8) 33)).alloc (.cells (agi Z8) 33)) p Z8 := by
  have h1 := IB.new w 33 p
  have h2 := IB.new (w.alloc (.cells (agi p) 33)) 33 Z8
  have h3 := IB.new ((w.alloc (.cells (agi p) 33)).alloc (.cells (agi Z8) 33)) 33 Z8
  simp only [World.size_alloc] at h2 h3
  exact ⟨Blk.alloc (Blk.alloc h1 _) _, Blk.alloc h2 _, h3, ((((Below.refl _ _).alloc (Nat.le_refl _) _).alloc (by simp) _).alloc (by simp; omega) _)⟩
theorem Nx.set_ {w wr : World} {p ys : List Int} (h : Nx w wr p ys) (k : Nat) (x : Int) : Nx w (wr.setCell ⟨w.heap.size + 2, k, none⟩ (.int .i64 x)) p (ys.set k x) :=
  ⟨Blk.far h.A (by show w.heap.size ≠ w.heap.size + 2; omega) _, Blk.far h.R (by show w.heap.size + 1 ≠ w.heap.size + 2; omega) _, IB.set_ h.O k x, h.bel.setCell (p := ⟨w.heap.size + 2, k, none⟩) (by show w.heap.size ≤ w.heap.size + 2; omega) _⟩
theorem Nx.drew {w wr : World} {p ys : List Int} (h : Nx w wr p ys) : Nx w wr.drew p ys := ⟨h.A, h.R, h.O, h.bel.drew⟩

set_option maxHeartbeats 4000000 in
theorem newest_any (p l : List Int) (A : Option Addr) (c n B : Nat) (w : World) (hp : p.length = 8) (hr : Rs w w.heap.size A l) (hn : l.length = n) (hl : n ≤ 17592186044416) :
    Calls Try.prog 68 #[.agg (agi p), .slice A n c] w fun e w' => e = .returned (.agg (agi (newL p l))) ∧ Below w.heap.size w w' := by
  have hR := results_row1 (fn := Try.f68) (p := 4) (ty := 33) rfl
  have S0 := Nx.start w p
  rw [z8_eq] at S0
  have S0 := hid S0
  have HP := hid hp
  have HN := hid hn
  have HR := hid hr
  have FL := hid (newL_range (l := l) hp)
  clear hp hn hr
  go_enter Try.func68, Try.ntmps68
  go_wp2
  go_loopw [7] (fun iv wr => ∃ (k : Nat) (ys : List Int), k ≤ 8 ∧ iv = .int .i64 k ∧ Hid (ys.length = 8 ∧ ∀ j, j < k → ys.getD j 0 = newAt p l j) ∧ Hid (Nx w wr p ys)) (fun iv _ => 8 - (intOf iv).toNat)
  case atStart => exact ⟨0, Z8, by omega, rfl, hid ⟨rfl, fun j h => by omega⟩, S0⟩
  case round =>
    clear S0
    obtain ⟨k, ys, hk, rfl, HY, HS⟩ := hrel
    have f0 := fun i => Blk.frozen HS.out.O i
    by_cases hlt : k < 8
    · have NEXT := fun x (hx : x = newAt p l k) => hid (show (ys.set k x).length = 8 ∧ ∀ j, j < k + 1 → (ys.set k x).getD j 0 = newAt p l j from by
        obtain ⟨y1, y2⟩ := HY.out
        refine ⟨by simpa using y1, fun j hj => ?_⟩
        by_cases he : k = j
        · subst he
          rw [get_set_same _ _ _ (by omega), hx]
        · rw [get_set_other _ _ he]
          exact y2 j (by omega))
      have cy := IB.cell HS.out.O k (by rw [HY.out.1]; omega)
      have fy := f0 k
      clear f0
      by_cases hin : k < n
      · obtain ⟨d, hd⟩ : ∃ d : Nat, n = k + 1 + d := ⟨n - (k + 1), by omega⟩
        obtain ⟨ad, rfl, _, c1⟩ := (HR.out.below HS.out.bel).at_ (k := d) (by rw [HN.out]; omega)
        have HX := NEXT (l.getD d 0) (by unfold newAt; rw [if_pos (by rw [HN.out]; exact hin), HN.out]; congr 1; omega)
        have SX := hid (HS.out.set_ k (l.getD d 0))
        have SD := hid (SX.out.drew)
        have hw1 : IntKind.i64.wrap ((n : Int) - 1) = (n : Int) - 1 := by rw [IntKind.wrap_i64]; omega
        have hw2 : IntKind.i64.wrap ((n : Int) - 1 - (k : Int)) = (d : Nat) := by rw [IntKind.wrap_i64]; omega
        generalize l.getD d 0 = x at *
        have hdi : (d : Int) < n := by omega
        have HD := hid hd
        clear hd NEXT
        go_wp2
        go_roundw
        case rel => exact ⟨k + 1, _, by omega, by go_num, HX, SX⟩
        case measure => simp [intOf] <;> omega
      · obtain ⟨d, hd⟩ : ∃ d : Nat, k = n + d := ⟨k - n, by omega⟩
        have c1 := IB.cell HS.out.A d (by rw [HP.out]; omega)
        have HX := NEXT (p.getD d 0) (by unfold newAt; rw [if_neg (by rw [HN.out]; exact hin), HN.out]; congr 1; omega)
        have SX := hid (HS.out.set_ k (p.getD d 0))
        have hw2 : IntKind.i64.wrap ((k : Int) - (n : Int)) = (d : Nat) := by rw [IntKind.wrap_i64]; omega
        generalize p.getD d 0 = x at *
        have hdi : (d : Int) < 8 := by omega
        have hd8 : d < 8 := by omega
        have HD := hid hd
        clear hd NEXT
        go_wp2
        go_roundw
        case rel => exact ⟨k + 1, _, by omega, by go_num, HX, SX⟩
        case measure => simp [intOf] <;> omega
    · obtain rfl : k = 8 := by omega
      have YE := hid (show ys = newL p l from by
        rw [FL.out]
        obtain ⟨y1, y2⟩ := HY.out
        exact list_ext (by rw [y1]; simp) fun j hj => by rw [y2 j (by omega)]; simp [show j < 8 by omega])
      have LY := hid HY.out.1
      clear hlt f0
      have hRow := hid (IB.setRow HS.out.R ys)
      have FIN := hid (below_setRow HS.out.bel (g := w.heap.size + 1) (by omega) (agi ys))
      go_wp2_with (first
        | (refine wpList_loadI rfl 33 (.tmp 5) rfl _ 33 ys 8 _ rfl HS.out.O Try.underlying33 rfl size8 LY.out ?_)
        | (refine wpList_storeI rfl 33 (.tmp 4) (.tmp 33) rfl _ 33 Z8 ys 8 rfl rfl HS.out.R size8 rfl LY.out ?_))
      refine bodyPost_ret (v := _) (hR _ _ _ 33 ys _ 8 rfl hRow.out Try.underlying33 rfl size8 LY.out) rfl ?_
      exact ⟨by rw [YE.out], FIN.out⟩
end Go.Proofs.Ythajpmilccpgeaa

/- The walks of the reference's rightFilter, newest and guess. -/
namespace Go.Proofs.Ythajpmilccpgeaa
set_option linter.unusedVariables false
set_option linter.unusedSimpArgs false
set_option maxRecDepth 100000
open Go.RowKit

/-- A block of numbers, read as a slice. -/
theorem rs_block {w : World} {g B : Nat} {t : TypeId} {xs : List Int} (h : IB w g t xs) (hg : g < B) : Rs w B (some ⟨g, 0, none⟩) xs :=
  ⟨by simp [ints], fun _ => ⟨_, rfl, hg, fun j u hu => by
    have hj : j < xs.length := by
      have := (List.getElem?_eq_some_iff.mp hu).1
      rwa [ints_len] at this
    rw [ints_get xs j hj] at hu
    rw [add_zero', ← hu]
    exact IB.cell h j hj⟩⟩

set_option maxHeartbeats 4000000 in
theorem rightFilter_any (a p l : List Int) (A : Option Addr) (c n B : Nat) (w : World) (ha : a.length = 9) (hp : p.length = 8) (hr : Rs w w.heap.size A l) (hn : l.length = n) (hl : n ≤ 17592186044416) :
    Calls Try.prog 66 #[.agg (agi a), .agg (agi p), .slice A n c] w (AnsB w (goodF a p l)) := by
  have hI := hid (IB.new w 37 a)
  have hJ := IB.new (w.alloc (.cells (agi a) 37)) 33 p
  simp only [World.size_alloc] at hJ
  have hRP := hid (show Rs ((w.alloc (.cells (agi a) 37)).alloc (.cells (agi p) 33)) (w.heap.size + 1 + 1) (some ⟨w.heap.size + 1, 0, none⟩) p from rs_block hJ (by omega))
  have hI := hid (Blk.alloc hI.out (.cells (agi p) 33))
  have HA := hid ha
  have HP := hid hp
  have HN := hid hn
  have HR := hid (hr.below (((Below.refl _ w).alloc (Nat.le_refl _) (.cells (agi a) 37)).alloc (by simp) (.cells (agi p) 33)))
  have HB := hid (((Below.refl _ w).alloc (Nat.le_refl _) (.cells (agi a) 37)).alloc (by simp) (.cells (agi p) 33))
  have hix := fun (k : Nat) (hk : k < 9) (w : World) => run_index_agi Try.underlying37 a ha k hk w
  have HIX := hid hix
  have K1 := hid (fun W (h : Rs W (w.heap.size + 1 + 1) (some ⟨w.heap.size + 1, 0, none⟩) p) => Right_any (some ⟨w.heap.size + 1, 0, none⟩) 8 8 (w.heap.size + 1 + 1) p W h hp (by omega))
  have K2 := hid (fun W (h : Rs W w.heap.size A l) => Right_any A c n w.heap.size l W h hn hl)
  clear ha hp hn hr hix hJ
  have c0 := IB.cell hI.out 0 (by rw [HA.out]; omega)
  obtain ⟨a0, ha0⟩ : ∃ a0, a0 = a.getD 0 0 := ⟨_, rfl⟩
  rw [← ha0] at c0
  have HA0 := hid ha0
  have C0 := hid c0
  clear ha0 c0
  go_enter Try.func66, Try.ntmps66
  go_wp2_with (refine wpList_loadI rfl 37 (.tmp 3) rfl _ 37 a 9 _ rfl hI.out Try.underlying37 rfl size9 HA.out ?_)
  go_loop [10] (fun iv => ∃ k : Nat, k ≤ 9 ∧ iv = .int .i64 k ∧ Hid (allTo okP1 a k)) (fun iv => 9 - (intOf iv).toNat)
  case atStart => exact ⟨0, by omega, rfl, hid allTo.zero⟩
  case round =>
    obtain ⟨k, hk, rfl, HY⟩ := hrel
    by_cases hlt : k < 9
    · have hix := HIX.out k hlt
      obtain ⟨x, hx⟩ : ∃ x, x = a.getD k 0 := ⟨_, rfl⟩
      rw [← hx] at hix
      have HX := hid hx
      clear hx
      by_cases b1 : x < -1048576
      · have HF := hid (show okP a = false from all_no (i := k) (by rw [HA.out]; exact hlt) (okP1_no (by rw [← HX.out]; exact .inl b1)))
        go_wp2
        go_ret
        exact ⟨by unfold goodF; rw [HF.out]; rfl, HB.out⟩
      by_cases b2 : 1048576 < x
      · have HF := hid (show okP a = false from all_no (i := k) (by rw [HA.out]; exact hlt) (okP1_no (by rw [← HX.out]; exact .inr b2)))
        go_wp2
        go_ret
        exact ⟨by unfold goodF; rw [HF.out]; rfl, HB.out⟩
      have HN2 := hid (HY.out.succ (by rw [← HX.out]; exact okP1_yes (by omega) (by omega)))
      go_wp2
      go_round
      case rel => exact ⟨k + 1, by omega, by go_num, HN2⟩
      case measure => simp [intOf] <;> omega
    · obtain rfl : k = 9 := by omega
      have HF9 := hid (show okP a = true from HY.out.all (by rw [HA.out]; exact Nat.le_refl _))
      clear hlt HY
      have c0 := C0.out
      by_cases h0 : a0 = 4096
      · have HA1 := hid (show a.getD 0 0 = 4096 by rw [← HA0.out, h0])
        obtain ⟨b2, hb2⟩ : ∃ b2, b2 = all16 p := ⟨_, rfl⟩
        have K1' := hid (K1.out _ hRP.out)
        rw [← hb2] at K1'
        cases b2 with
        | false =>
          have HB2 := hid hb2
          clear hb2
          go_wp2_with (go_at_call 56; (with_reducible refine K1'.out.mono ?_); rintro e w' ⟨rfl, rfl⟩)
          go_ret
          exact ⟨by unfold goodF; rw [HF9.out, HA1.out, ← HB2.out]; rfl, HB.out⟩
        | true =>
          have HB2 := hid hb2
          clear hb2
          go_wp2_with (first
            | (go_at_call 56; (with_reducible refine K1'.out.mono ?_); rintro e w' ⟨rfl, rfl⟩)
            | (go_at_call 56; (with_reducible refine (K2.out _ HR.out).mono ?_); rintro e w' ⟨rfl, rfl⟩))
          go_ret
          exact ⟨by unfold goodF; rw [HF9.out, HA1.out, ← HB2.out]; simp, HB.out⟩
      · have HA1 := hid (show decide (a.getD 0 0 = 4096) = false by rw [← HA0.out]; simpa using h0)
        go_wp2
        go_ret
        exact ⟨by unfold goodF; rw [HF9.out, HA1.out]; rfl, HB.out⟩
end Go.Proofs.Ythajpmilccpgeaa

/- The walk of the reference's guess. -/
namespace Go.Proofs.Ythajpmilccpgeaa
set_option linter.unusedVariables false
set_option linter.unusedSimpArgs false
set_option maxRecDepth 100000
open Go.RowKit

theorem agi8 (q0 q1 q2 q3 q4 q5 q6 q7 : Int) : agi [q0, q1, q2, q3, q4, q5, q6, q7] = #[.int .i64 q0, .int .i64 q1, .int .i64 q2, .int .i64 q3, .int .i64 q4, .int .i64 q5, .int .i64 q6, .int .i64 q7] := rfl

set_option maxHeartbeats 4000000 in
theorem refguess_any (a p l : List Int) (A : Option Addr) (c n m : Nat) (w : World) (ha : a.length = 9) (hp : p.length = 8) (oa : okP a = true) (op : all16 p = true) (ol : all16 l = true) (hr : Rs w w.heap.size A l) (hn : l.length = n) (hl : n ≤ 17592186044416) (hm : m ≤ n) (hc : n ≤ c) :
    Calls Try.prog 67 #[.agg (agi a), .agg (agi p), .slice A n c, .int .i64 m] w fun e w' => e = .returned (.int .i64 (guessL a (newL p (l.take m)))) ∧ Below w.heap.size w w' := by
  obtain ⟨p0, p1, p2, p3, p4, p5, p6, p7, rfl⟩ := list8 hp
  obtain ⟨ys, hy⟩ : ∃ ys, ys = newL [p0, p1, p2, p3, p4, p5, p6, p7] (l.take m) := ⟨_, rfl⟩
  have hyl : ys.length = 8 := by rw [hy]; exact newL_len _ _ rfl
  have h16 : all16 ys = true := by rw [hy]; exact newL_all _ _ op (all16_take ol m)
  have KN := fun (W : World) (hW : Rs W W.heap.size A (l.take m)) => newest_any [p0, p1, p2, p3, p4, p5, p6, p7] (l.take m) A c m 0 W rfl hW (by simp; omega) (by omega)
  rw [← hy] at KN ⊢
  obtain ⟨y0, y1, y2, y3, y4, y5, y6, y7, rfl⟩ := list8 hyl
  rw [agi8, agi8] at KN
  have KN := hid KN
  have hI := IB.new w 37 a
  have hJ := IB.new (w.alloc (.cells (agi a) 37)) 33 [p0, p1, p2, p3, p4, p5, p6, p7]
  simp only [World.size_alloc] at hJ
  have hI := Blk.alloc hI (.cells (agi [p0, p1, p2, p3, p4, p5, p6, p7]) 33)
  have hB := (((Below.refl _ w).alloc (Nat.le_refl _) (.cells (agi a) 37)).alloc (by simp) (.cells (agi [p0, p1, p2, p3, p4, p5, p6, p7]) 33))
  have hs : ((w.alloc (.cells (agi a) 37)).alloc (.cells (agi [p0, p1, p2, p3, p4, p5, p6, p7]) 33)).heap.size = w.heap.size + 1 + 1 := by simp
  have hr1 := hr.below hB
  have HA := hid ha
  have OA := hid oa
  have HY := hid hy
  have H16 := hid h16
  rw [agi8] at hI hJ hB hs hr1
  generalize hW : (w.alloc (.cells (agi a) 37)).alloc (.cells #[.int .i64 p0, .int .i64 p1, .int .i64 p2, .int .i64 p3, .int .i64 p4, .int .i64 p5, .int .i64 p6, .int .i64 p7] 33) = W at hI hJ hB hs hr1
  have c0 : W.cell? ⟨w.heap.size + 1, 0, none⟩ = some (.int .i64 p0) := IB.cell hJ 0 (by simp)
  have c1 : W.cell? ⟨w.heap.size + 1, 1, none⟩ = some (.int .i64 p1) := IB.cell hJ 1 (by simp)
  have c2 : W.cell? ⟨w.heap.size + 1, 2, none⟩ = some (.int .i64 p2) := IB.cell hJ 2 (by simp)
  have c3 : W.cell? ⟨w.heap.size + 1, 3, none⟩ = some (.int .i64 p3) := IB.cell hJ 3 (by simp)
  have c4 : W.cell? ⟨w.heap.size + 1, 4, none⟩ = some (.int .i64 p4) := IB.cell hJ 4 (by simp)
  have c5 : W.cell? ⟨w.heap.size + 1, 5, none⟩ = some (.int .i64 p5) := IB.cell hJ 5 (by simp)
  have c6 : W.cell? ⟨w.heap.size + 1, 6, none⟩ = some (.int .i64 p6) := IB.cell hJ 6 (by simp)
  have c7 : W.cell? ⟨w.heap.size + 1, 7, none⟩ = some (.int .i64 p7) := IB.cell hJ 7 (by simp)
  have HR2 := hid (fun W2 (hb : Below W.heap.size W W2) => (((hr1.take (k := m) (by omega)).below (hb.mono (by omega))).more (show w.heap.size ≤ W2.heap.size from by have := hb.size; omega)))
  have hm1 : (m : Int) ≤ c := by omega
  have hm0 : (0 : Int) ≤ m := by omega
  have hmc : m ≤ c := by omega
  have HI := hid hI
  have HB := hid hB
  have HW := hid hW
  have HS := hid hs
  clear hy hyl h16 hI hJ hB hr1 hs oa op ol ha hr hn
  go_enter Try.func67, Try.ntmps67
  go_wp2
  rw [agi8, hW]
  clear hW
  have HRZ := hid (HR2.out (W.alloc (.cells (agi Z8) 33)).drew (Below.drew ((Below.refl _ _).alloc (Nat.le_refl _) _)))
  have KZ := hid (KN.out (W.alloc (.cells (agi Z8) 33)).drew HRZ.out)
  rw [z8_eq] at KZ
  have hltJ : w.heap.size + 1 < W.heap.size := by have := HS.out; omega
  have hne1 : ¬ W.heap.size = w.heap.size + 1 := by omega
  have hne2 : ¬ w.heap.size + 1 = W.heap.size := by omega
  go_region_held3 (fun w' => w'.cell? ⟨w.heap.size + 1, 0, none⟩ = some (.int .i64 p0) ∧ w'.cell? ⟨w.heap.size + 1, 1, none⟩ = some (.int .i64 p1) ∧ w'.cell? ⟨w.heap.size + 1, 2, none⟩ = some (.int .i64 p2) ∧ w'.cell? ⟨w.heap.size + 1, 3, none⟩ = some (.int .i64 p3) ∧ w'.cell? ⟨w.heap.size + 1, 4, none⟩ = some (.int .i64 p4) ∧ w'.cell? ⟨w.heap.size + 1, 5, none⟩ = some (.int .i64 p5) ∧ w'.cell? ⟨w.heap.size + 1, 6, none⟩ = some (.int .i64 p6) ∧ w'.cell? ⟨w.heap.size + 1, 7, none⟩ = some (.int .i64 p7)) (go_keep) (first
    | (go_at_call 68; (with_reducible refine (KN.out W.drew (HR2.out _ (Below.drew (Below.refl _ _)))).mono ?_); rintro e w2 ⟨rfl, hB⟩; have HB2 := hid hB; clear hB; have hz2 : W.heap.size ≤ w2.heap.size := HB2.out.size; have n1 : ¬ w2.heap.size = w.heap.size + 1 := (by omega); have n2 : ¬ w.heap.size + 1 = w2.heap.size := (by omega); have k0 := (HB2.out.cell (p := ⟨w.heap.size + 1, 0, none⟩) (show w.heap.size + 1 < W.drew.heap.size from hltJ)).trans c0; have k1 := (HB2.out.cell (p := ⟨w.heap.size + 1, 1, none⟩) (show w.heap.size + 1 < W.drew.heap.size from hltJ)).trans c1; have k2 := (HB2.out.cell (p := ⟨w.heap.size + 1, 2, none⟩) (show w.heap.size + 1 < W.drew.heap.size from hltJ)).trans c2; have k3 := (HB2.out.cell (p := ⟨w.heap.size + 1, 3, none⟩) (show w.heap.size + 1 < W.drew.heap.size from hltJ)).trans c3; have k4 := (HB2.out.cell (p := ⟨w.heap.size + 1, 4, none⟩) (show w.heap.size + 1 < W.drew.heap.size from hltJ)).trans c4; have k5 := (HB2.out.cell (p := ⟨w.heap.size + 1, 5, none⟩) (show w.heap.size + 1 < W.drew.heap.size from hltJ)).trans c5; have k6 := (HB2.out.cell (p := ⟨w.heap.size + 1, 6, none⟩) (show w.heap.size + 1 < W.drew.heap.size from hltJ)).trans c6; have k7 := (HB2.out.cell (p := ⟨w.heap.size + 1, 7, none⟩) (show w.heap.size + 1 < W.drew.heap.size from hltJ)).trans c7)
    | (go_at_call 68; (with_reducible refine KZ.out.mono ?_); rintro e w2 ⟨rfl, hB⟩; have b9 : IB w2 W.heap.size 33 Z8 := Blk.below' (Blk.drew (IB.new W 33 Z8)) hB; have z0 : w2.cell? ⟨W.heap.size, 0, none⟩ = some (.int .i64 0) := IB.cell b9 0 (by decide); have g0 : w2.frozen? ⟨W.heap.size, 0, none⟩ = false := Blk.frozen b9 0; have z1 : w2.cell? ⟨W.heap.size, 1, none⟩ = some (.int .i64 0) := IB.cell b9 1 (by decide); have g1 : w2.frozen? ⟨W.heap.size, 1, none⟩ = false := Blk.frozen b9 1; have z2 : w2.cell? ⟨W.heap.size, 2, none⟩ = some (.int .i64 0) := IB.cell b9 2 (by decide); have g2 : w2.frozen? ⟨W.heap.size, 2, none⟩ = false := Blk.frozen b9 2; have z3 : w2.cell? ⟨W.heap.size, 3, none⟩ = some (.int .i64 0) := IB.cell b9 3 (by decide); have g3 : w2.frozen? ⟨W.heap.size, 3, none⟩ = false := Blk.frozen b9 3; have z4 : w2.cell? ⟨W.heap.size, 4, none⟩ = some (.int .i64 0) := IB.cell b9 4 (by decide); have g4 : w2.frozen? ⟨W.heap.size, 4, none⟩ = false := Blk.frozen b9 4; have z5 : w2.cell? ⟨W.heap.size, 5, none⟩ = some (.int .i64 0) := IB.cell b9 5 (by decide); have g5 : w2.frozen? ⟨W.heap.size, 5, none⟩ = false := Blk.frozen b9 5; have z6 : w2.cell? ⟨W.heap.size, 6, none⟩ = some (.int .i64 0) := IB.cell b9 6 (by decide); have g6 : w2.frozen? ⟨W.heap.size, 6, none⟩ = false := Blk.frozen b9 6; have z7 : w2.cell? ⟨W.heap.size, 7, none⟩ = some (.int .i64 0) := IB.cell b9 7 (by decide); have g7 : w2.frozen? ⟨W.heap.size, 7, none⟩ = false := Blk.frozen b9 7; have HB2 := hid hB; have B9 := hid b9; clear hB b9; have k0 := (HB2.out.cell (p := ⟨w.heap.size + 1, 0, none⟩) (by simp; omega)).trans (((Below.refl _ W).alloc (Nat.le_refl _) _).cell (p := ⟨w.heap.size + 1, 0, none⟩) hltJ |>.trans c0); have k1 := (HB2.out.cell (p := ⟨w.heap.size + 1, 1, none⟩) (by simp; omega)).trans (((Below.refl _ W).alloc (Nat.le_refl _) _).cell (p := ⟨w.heap.size + 1, 1, none⟩) hltJ |>.trans c1); have k2 := (HB2.out.cell (p := ⟨w.heap.size + 1, 2, none⟩) (by simp; omega)).trans (((Below.refl _ W).alloc (Nat.le_refl _) _).cell (p := ⟨w.heap.size + 1, 2, none⟩) hltJ |>.trans c2); have k3 := (HB2.out.cell (p := ⟨w.heap.size + 1, 3, none⟩) (by simp; omega)).trans (((Below.refl _ W).alloc (Nat.le_refl _) _).cell (p := ⟨w.heap.size + 1, 3, none⟩) hltJ |>.trans c3); have k4 := (HB2.out.cell (p := ⟨w.heap.size + 1, 4, none⟩) (by simp; omega)).trans (((Below.refl _ W).alloc (Nat.le_refl _) _).cell (p := ⟨w.heap.size + 1, 4, none⟩) hltJ |>.trans c4); have k5 := (HB2.out.cell (p := ⟨w.heap.size + 1, 5, none⟩) (by simp; omega)).trans (((Below.refl _ W).alloc (Nat.le_refl _) _).cell (p := ⟨w.heap.size + 1, 5, none⟩) hltJ |>.trans c5); have k6 := (HB2.out.cell (p := ⟨w.heap.size + 1, 6, none⟩) (by simp; omega)).trans (((Below.refl _ W).alloc (Nat.le_refl _) _).cell (p := ⟨w.heap.size + 1, 6, none⟩) hltJ |>.trans c6); have k7 := (HB2.out.cell (p := ⟨w.heap.size + 1, 7, none⟩) (by simp; omega)).trans (((Below.refl _ W).alloc (Nat.le_refl _) _).cell (p := ⟨w.heap.size + 1, 7, none⟩) hltJ |>.trans c7)))
  · have IA := Blk.alloc (Blk.below' (Blk.drew HI.out) HB2.out) (.cells (agi [y0, y1, y2, y3, y4, y5, y6, y7]) 33)
    have IY := IB.new w2 33 [y0, y1, y2, y3, y4, y5, y6, y7]
    have IL := ((HB.out.drew).trans (HB2.out.mono (show w.heap.size ≤ W.drew.heap.size from (show w.heap.size ≤ W.heap.size by omega)))).alloc (show w.heap.size ≤ w2.heap.size by omega) (.cells (agi [y0, y1, y2, y3, y4, y5, y6, y7]) 33)
    rw [agi8] at IA IL
    generalize hV : World.alloc w2 _ = V
    rw [hV] at IA IL
    have IY2 : IB V w2.heap.size 33 [y0, y1, y2, y3, y4, y5, y6, y7] := by rw [← hV]; exact IY
    generalize w2.heap.size = g9 at *
    have IA := hid IA
    have IY := hid IY2
    have IL := hid IL
    clear IY2 c0 k0 c1 k1 c2 k2 c3 k3 c4 k4 c5 k5 c6 k6 c7 k7
    go_wp2
    go_loopw [10, 11] (fun sv iv wr => ∃ (k : Nat) (s : Int), k ≤ 8 ∧ iv = .int .i64 ((k + 1 : Nat) : Int) ∧ sv = .int .i64 s ∧ Hid (s = 2048 + sumN (gterm a [y0, y1, y2, y3, y4, y5, y6, y7]) k) ∧ Hid (Blk wr w.heap.size 37 (agi a)) ∧ Hid (IB wr g9 33 [y0, y1, y2, y3, y4, y5, y6, y7]) ∧ Hid (Below w.heap.size w wr)) (fun _ iv _ => 9 - (intOf iv).toNat)
    case atStart => exact ⟨0, 2048, by omega, rfl, rfl, hid rfl, IA, IY, IL⟩
    case round =>
      clear IA IY IL
      obtain ⟨k, s, hk, rfl, rfl, HSM, IA, IY, IL⟩ := hrel
      by_cases hlt : k < 8
      · have ca := IB.cell IA.out (k + 1) (by rw [HA.out]; omega)
        have cy := IB.cell IY.out k (by simpa using hlt)
        have tb := gterm_bound OA.out H16.out k
        have sb := gsum_bound OA.out H16.out k
        have HT := hid (show 2048 + sumN (gterm a [y0, y1, y2, y3, y4, y5, y6, y7]) (k + 1) = s + gterm a [y0, y1, y2, y3, y4, y5, y6, y7] k by rw [HSM.out]; simp only [sumN]; omega)
        have hs := HSM.out
        have s1 : -300000000000 ≤ s := by omega
        have s2 : s ≤ 300000000000 := by omega
        clear hs sb HSM
        obtain ⟨t, ht⟩ : ∃ t, t = gterm a [y0, y1, y2, y3, y4, y5, y6, y7] k := ⟨_, rfl⟩
        rw [← ht] at HT tb
        unfold gterm at ht
        generalize a.getD (k + 1) 0 = x at *
        generalize [y0, y1, y2, y3, y4, y5, y6, y7].getD k 0 = y at *
        subst ht
        obtain ⟨t1, t2⟩ := tb
        have i1 : ((k + 1 : Nat) : Int) ≤ 8 := by omega
        have i2 : ((k + 1 : Nat) : Int) < 9 := by omega
        have i3 : (k : Int) < 8 := by omega
        have hwA : IntKind.i64.wrap (((k + 1 : Nat) : Int) - 1) = (k : Nat) := by rw [IntKind.wrap_i64]; omega
        have hwB : IntKind.i64.wrap (x * y) = x * y := by rw [IntKind.wrap_i64]; omega
        have hwC : IntKind.i64.wrap (s + x * y) = s + x * y := by rw [IntKind.wrap_i64]; omega
        go_wp2
        go_region
        all_goals
          clear hwA hwB hwC
          go_wp2
          go_roundw
          case rel => exact ⟨k + 1, _, by omega, by go_num, rfl, hid HT.out.symm, IA, IY, hid IL.out.drew⟩
          case measure => simp [intOf] <;> omega
      · obtain rfl : k = 8 := by omega
        have sb := gsum_bound OA.out H16.out 8
        have hs := HSM.out
        have s1 : -300000000000 ≤ s := by omega
        have s2 : s ≤ 300000000000 := by omega
        have HF := hid (show s / 4096 = guessL a [y0, y1, y2, y3, y4, y5, y6, y7] by unfold guessL; rw [HSM.out])
        have KD := hid (fun W => down12 s W (by omega) (by omega))
        clear hs sb
        go_wp2_with (go_at_call 47; (with_reducible refine (KD.out _).mono ?_); rintro e w9 ⟨rfl, hB⟩; have HB9 := hid hB; clear hB)
        go_ret
        exact ⟨by rw [← HF.out]; rfl, IL.out.trans (HB9.out.mono IL.out.size)⟩
  · have IA0 := Blk.below' (Blk.drew (Blk.alloc HI.out (.cells (agi Z8) 33))) HB2.out
    have far : ∀ (W2 : World) (i : Nat) (v : Value), Blk W2 w.heap.size 37 (agi a) → Blk (W2.setCell ⟨W.heap.size, i, none⟩ v) w.heap.size 37 (agi a) := fun W2 i v h => Blk.far h (show w.heap.size ≠ W.heap.size by omega) v
    have IA := far _ 7 (.int .i64 y7) (far _ 6 (.int .i64 y6) (far _ 5 (.int .i64 y5) (far _ 4 (.int .i64 y4) (far _ 3 (.int .i64 y3) (far _ 2 (.int .i64 y2) (far _ 1 (.int .i64 y1) (far _ 0 (.int .i64 y0) IA0)))))))
    have IY2 := IB.set8 B9.out y0 y1 y2 y3 y4 y5 y6 y7
    have IL := below_set8 (((HB.out.alloc (show w.heap.size ≤ W.heap.size by omega) (.cells (agi Z8) 33)).drew).trans (HB2.out.mono (by simp; omega))) (show w.heap.size ≤ W.heap.size by omega) y0 y1 y2 y3 y4 y5 y6 y7
    generalize World.setCell _ _ _ = V at *
    generalize W.heap.size = g9 at *
    have IA := hid IA
    have IY := hid IY2
    have IL := hid IL
    clear IY2 c0 k0 c1 k1 c2 k2 c3 k3 c4 k4 c5 k5 c6 k6 c7 k7
    go_wp2
    go_loopw [10, 11] (fun sv iv wr => ∃ (k : Nat) (s : Int), k ≤ 8 ∧ iv = .int .i64 ((k + 1 : Nat) : Int) ∧ sv = .int .i64 s ∧ Hid (s = 2048 + sumN (gterm a [y0, y1, y2, y3, y4, y5, y6, y7]) k) ∧ Hid (Blk wr w.heap.size 37 (agi a)) ∧ Hid (IB wr g9 33 [y0, y1, y2, y3, y4, y5, y6, y7]) ∧ Hid (Below w.heap.size w wr)) (fun _ iv _ => 9 - (intOf iv).toNat)
    case atStart => exact ⟨0, 2048, by omega, rfl, rfl, hid rfl, IA, IY, IL⟩
    case round =>
      clear IA IY IL
      obtain ⟨k, s, hk, rfl, rfl, HSM, IA, IY, IL⟩ := hrel
      by_cases hlt : k < 8
      · have ca := IB.cell IA.out (k + 1) (by rw [HA.out]; omega)
        have cy := IB.cell IY.out k (by simpa using hlt)
        have tb := gterm_bound OA.out H16.out k
        have sb := gsum_bound OA.out H16.out k
        have HT := hid (show 2048 + sumN (gterm a [y0, y1, y2, y3, y4, y5, y6, y7]) (k + 1) = s + gterm a [y0, y1, y2, y3, y4, y5, y6, y7] k by rw [HSM.out]; simp only [sumN]; omega)
        have hs := HSM.out
        have s1 : -300000000000 ≤ s := by omega
        have s2 : s ≤ 300000000000 := by omega
        clear hs sb HSM
        obtain ⟨t, ht⟩ : ∃ t, t = gterm a [y0, y1, y2, y3, y4, y5, y6, y7] k := ⟨_, rfl⟩
        rw [← ht] at HT tb
        unfold gterm at ht
        generalize a.getD (k + 1) 0 = x at *
        generalize [y0, y1, y2, y3, y4, y5, y6, y7].getD k 0 = y at *
        subst ht
        obtain ⟨t1, t2⟩ := tb
        have i1 : ((k + 1 : Nat) : Int) ≤ 8 := by omega
        have i2 : ((k + 1 : Nat) : Int) < 9 := by omega
        have i3 : (k : Int) < 8 := by omega
        have hwA : IntKind.i64.wrap (((k + 1 : Nat) : Int) - 1) = (k : Nat) := by rw [IntKind.wrap_i64]; omega
        have hwB : IntKind.i64.wrap (x * y) = x * y := by rw [IntKind.wrap_i64]; omega
        have hwC : IntKind.i64.wrap (s + x * y) = s + x * y := by rw [IntKind.wrap_i64]; omega
        go_wp2
        go_region
        all_goals
          clear hwA hwB hwC
          go_wp2
          go_roundw
          case rel => exact ⟨k + 1, _, by omega, by go_num, rfl, hid HT.out.symm, IA, IY, hid IL.out.drew⟩
          case measure => simp [intOf] <;> omega
      · obtain rfl : k = 8 := by omega
        have sb := gsum_bound OA.out H16.out 8
        have hs := HSM.out
        have s1 : -300000000000 ≤ s := by omega
        have s2 : s ≤ 300000000000 := by omega
        have HF := hid (show s / 4096 = guessL a [y0, y1, y2, y3, y4, y5, y6, y7] by unfold guessL; rw [HSM.out])
        have KD := hid (fun W => down12 s W (by omega) (by omega))
        clear hs sb
        go_wp2_with (go_at_call 47; (with_reducible refine (KD.out _).mono ?_); rintro e w9 ⟨rfl, hB⟩; have HB9 := hid hB; clear hB)
        go_ret
        exact ⟨by rw [← HF.out]; rfl, IL.out.trans (HB9.out.mono IL.out.size)⟩
end Go.Proofs.Ythajpmilccpgeaa

/- The walks of the reference's Make and Undo. -/
namespace Go.Proofs.Ythajpmilccpgeaa
set_option linter.unusedVariables false
set_option linter.unusedSimpArgs false
set_option maxRecDepth 100000
open Go.RowKit

set_option maxHeartbeats 4000000 in
theorem refMake_any (a p l : List Int) (A0 : Option Addr) (c0 n : Nat) (w : World) (ha : a.length = 9) (hp : p.length = 8) (hr : Rs w w.heap.size A0 l) (hn : l.length = n) (hl : n ≤ 17592186044000) (hc : n ≤ c0) :
    Calls Try.prog 36 #[.agg (agi a), .agg (agi p), .slice A0 n c0] w (NewSP w (if goodF a p l then makeN a p l n else []) (if goodF a p l then newL p (makeN a p l n) else Z8) (errOf (goodF a p l))) := by
  have hR := results_mid3 (fn := Try.f36) (p := 6) (q := 7) (r := 8) (ty := 33) rfl
  have S0 := Sx.start w a p
  have R0 := hr.below S0.bel
  rw [z8_eq] at S0
  rw [z8_eq] at R0
  have S0 := hid S0
  have R0 := hid R0
  have HA := hid ha
  have HP := hid hp
  have HN := hid hn
  have HR := hid hr
  have KG := hid (fun (W : World) (hW : Rs W W.heap.size A0 l) => rightFilter_any a p l A0 c0 n 0 W ha hp hW hn (by omega))
  clear ha hp hn hr
  obtain ⟨Y, hY⟩ : ∃ Y, Y = (if goodF a p l then makeN a p l n else []) := ⟨_, rfl⟩
  obtain ⟨Z, hZ⟩ : ∃ Z, Z = (if goodF a p l then newL p (makeN a p l n) else Z8) := ⟨_, rfl⟩
  rw [← hY, ← hZ]
  have HYY := hid hY
  have HZZ := hid hZ
  clear hY hZ
  go_enter Try.func36, Try.ntmps36
  go_wp2_with (first
    | (refine wpList_loadI rfl 37 (.tmp 3) rfl _ 37 a 9 _ rfl S0.out.A Try.underlying37 rfl size9 HA.out ?_)
    | (refine wpList_loadI rfl 33 (.tmp 4) rfl _ 33 p 8 _ rfl S0.out.P Try.underlying33 rfl size8 HP.out ?_))
  refine (KG.out _ (R0.out.more (by simp; omega))).mono ?_
  rintro e w1 ⟨rfl, hB⟩
  have S1 := hid (S0.out.below hB)
  clear hB S0 R0 KG
  by_cases hg : goodF a p l = true
  · have HG := hid hg
    rw [hg]
    have y1 := HYY.out
    have z1 := HZZ.out
    rw [if_pos hg] at y1 z1
    have HY1 := hid y1
    have HZ1 := hid z1
    clear y1 z1
    obtain ⟨ga, gz, gp, gl⟩ : okP a = true ∧ a.getD 0 0 = 4096 ∧ all16 p = true ∧ all16 l = true := by simpa [goodF] using hg
    have GA := hid ga
    have GP := hid gp
    have GL := hid gl
    clear hg ga gz gp gl
    go_wp2
    go_loopw [9, 20] (fun ov iv wr => ∃ (k : Nat) (A : Option Addr) (c : Nat) (ys : List Int), k ≤ n ∧ iv = .int .i64 k ∧ ov = .slice A k c ∧ Hid (ys = makeN a p l k) ∧ Hid (Own wr (w.heap.size + 3) A c ys) ∧ Hid (Sx w wr a p)) (fun _ iv _ => n - (intOf iv).toNat)
    case atStart => exact ⟨0, none, 0, [], by omega, rfl, rfl, hid rfl, hid Own.nil, S1⟩
    case round =>
      clear S1
      obtain ⟨k, A, c, ys, hk, rfl, rfl, HY, HO, HS⟩ := hrel
      have YL := hid (show ys.length = k by rw [HY.out, makeN_len])
      by_cases hlt : k < n
      · obtain ⟨ad, rfl, hadb, c1⟩ := (HR.out.below HS.out.bel).at_ (k := k) (by rw [HN.out]; exact hlt)
        have xb := all16_at GL.out k
        have YT := hid (show ys.take k = ys from List.take_of_length_le (by rw [YL.out]; exact Nat.le_refl _))
        have q16 := hid (show all16 (newL p ys) = true from newL_all _ _ GP.out (by rw [HY.out]; exact makeN_all _ _ _ _))
        have KC := hid (show k ≤ c from by have := HO.out.cap.1; rw [YL.out] at this; exact this)
        have YN := hid (show ys ++ [s16 (l.getD k 0 - guessL a (newL p ys))] = makeN a p l (k + 1) by rw [makeN, ← HY.out])
        obtain ⟨x, hx⟩ : ∃ x, x = l.getD k 0 := ⟨_, rfl⟩
        rw [← hx] at c1 xb YN
        have gb := guess_bound GA.out q16.out
        have K1 := hid (fun W hW => refguess_any a p ys A c k k W HA.out HP.out GA.out GP.out (by rw [HY.out]; exact makeN_all _ _ _ _) hW YL.out (by omega) (Nat.le_refl _) KC.out)
        rw [YT.out] at K1
        generalize guessL a (newL p ys) = g at *
        obtain ⟨x1, x2⟩ := xb
        obtain ⟨g1, g2⟩ := gb
        have hw1 : IntKind.i64.wrap (x - g) = x - g := by rw [IntKind.wrap_i64]; omega
        have RO := hid (HO.out.reads)
        obtain ⟨y, hy⟩ : ∃ y, y = s16 (x - g) := ⟨_, rfl⟩
        rw [← hy] at YN
        have HX := hid hx
        have KS := hid (fun W => S_any (x - g) W (by omega) (by omega))
        rw [← hy] at KS
        clear hx hy
        go_wp2_with (first
          | (refine wpList_loadI rfl 37 (.tmp 3) rfl _ 37 a 9 _ rfl HS.out.A Try.underlying37 rfl size9 HA.out ?_)
          | (refine wpList_loadI rfl 33 (.tmp 4) rfl _ 33 p 8 _ rfl HS.out.P Try.underlying33 rfl size8 HP.out ?_))
        refine (K1.out _ RO.out).mono ?_
        rintro e w2 ⟨rfl, hB⟩
        have S2 := hid (HS.out.below hB)
        have O2 := hid (HO.out.below hB)
        clear hB HS HO c1
        go_wp2_with fail
        refine (KS.out _).mono ?_
        rintro e w3 ⟨rfl, hB⟩
        have S3 := hid (S2.out.below hB)
        have O3 := hid (O2.out.below hB)
        clear hB S2 O2
        go_wp2_with (at_builtin; refine wpList_pushN rfl (.tmp 25) (.tmp 34) rfl (w.heap.size + 3) A c k ys rfl YL.out (O3.out.alloc _) ⟨w3.heap.size, 0, none⟩ y rfl (cell_new w3 _ _) (by omega) (Nat.le_trans S3.out.lt (by simp)) ?_; intro A2 c2 w5 hO hG hA; have O5 := hid hO; have G5 := hid hG; clear hO hG hA)
        have S5 := hid ((S3.out.alloc _).grown (O3.out.alloc _) G5.out)
        go_wp2
        go_roundw
        case rel => exact ⟨k + 1, A2, c2, _, by omega, by go_num, rfl, YN, O5, S5⟩
        case measure => simp [intOf] <;> omega
      · obtain rfl : k = n := by omega
        have FY := hid (show Y = ys by rw [HY1.out, HY.out])
        have KC := hid (show k ≤ c from by have := HO.out.cap.1; rw [YL.out] at this; exact this)
        have KN := hid (fun (W : World) (hW : Rs W W.heap.size A ys) => newest_any p ys A c k 0 W HP.out hW YL.out (by omega))
        have FZ := hid (show Z = newL p ys by rw [HZ1.out, HY.out])
        have ZL := hid (show (newL p ys).length = 8 from newL_len _ _ HP.out)
        have RO := hid (HO.out.reads)
        go_wp2_with (refine wpList_loadI rfl 33 (.tmp 4) rfl _ 33 p 8 _ rfl HS.out.P Try.underlying33 rfl size8 HP.out ?_)
        refine (KN.out _ RO.out).mono ?_
        rintro e w2 ⟨rfl, hB⟩
        have S2 := hid (HS.out.below hB)
        have O2 := hid (HO.out.below hB)
        clear hB HS HO
        go_wp2_with (refine wpList_storeI rfl 33 (.tmp 7) (.tmp 40) rfl _ 33 Z8 (newL p ys) 8 rfl rfl S2.out.R size8 rfl ZL.out ?_)
        refine bodyPost_ret (v := _) (hR _ _ _ 33 (newL p ys) _ 8 rfl (IB.setRow S2.out.R _) Try.underlying33 rfl size8 ZL.out) rfl ?_
        exact ⟨A, c, by rw [FY.out, FZ.out, YL.out, HG.out]; rfl, by rw [FY.out]; exact (O2.out.setRow (by omega) _).more (by omega), below_setRow S2.out.bel (by omega) _⟩
  · have hb : goodF a p l = false := by simpa using hg
    rw [hb]
    have hRow := hid (S1.out.R)
    go_wp2_with (refine wpList_storeI rfl 33 (.tmp 7) (.tmp 17) rfl _ 33 Z8 Z8 8 rfl rfl S1.out.R size8 rfl rfl ?_)
    refine bodyPost_ret (v := _) (hR _ _ _ 33 Z8 _ 8 rfl (IB.setRow S1.out.R Z8) Try.underlying33 rfl size8 rfl) rfl ?_
    have y1 := HYY.out
    have z1 := HZZ.out
    rw [if_neg hg] at y1 z1
    subst y1
    subst z1
    exact ⟨none, 0, by rw [hb]; rfl, Own.nil, below_setRow S1.out.bel (by omega) _⟩
end Go.Proofs.Ythajpmilccpgeaa

/- The walk of the reference's Undo. -/
namespace Go.Proofs.Ythajpmilccpgeaa
set_option linter.unusedVariables false
set_option linter.unusedSimpArgs false
set_option maxRecDepth 100000
open Go.RowKit

set_option maxHeartbeats 4000000 in
theorem refUndo_any (a p l : List Int) (A0 : Option Addr) (c0 n : Nat) (w : World) (ha : a.length = 9) (hp : p.length = 8) (hr : Rs w w.heap.size A0 l) (hn : l.length = n) (hl : n ≤ 17592186044000) (hc : n ≤ c0) :
    Calls Try.prog 38 #[.agg (agi a), .agg (agi p), .slice A0 n c0] w (NewSP w (if goodF a p l then undoN a p l n else []) (if goodF a p l then newL p l else Z8) (errOf (goodF a p l))) := by
  have hR := results_mid3 (fn := Try.f38) (p := 6) (q := 7) (r := 8) (ty := 33) rfl
  have S0 := Sx.start w a p
  have R0 := hr.below S0.bel
  rw [z8_eq] at S0
  rw [z8_eq] at R0
  have S0 := hid S0
  have R0 := hid R0
  have HA := hid ha
  have HP := hid hp
  have HN := hid hn
  have HR := hid hr
  have KG := hid (fun (W : World) (hW : Rs W W.heap.size A0 l) => rightFilter_any a p l A0 c0 n 0 W ha hp hW hn (by omega))
  clear ha hp hn hr
  obtain ⟨Y, hY⟩ : ∃ Y, Y = (if goodF a p l then undoN a p l n else []) := ⟨_, rfl⟩
  obtain ⟨Z, hZ⟩ : ∃ Z, Z = (if goodF a p l then newL p l else Z8) := ⟨_, rfl⟩
  rw [← hY, ← hZ]
  have HYY := hid hY
  have HZZ := hid hZ
  clear hY hZ
  go_enter Try.func38, Try.ntmps38
  go_wp2_with (first
    | (refine wpList_loadI rfl 37 (.tmp 3) rfl _ 37 a 9 _ rfl S0.out.A Try.underlying37 rfl size9 HA.out ?_)
    | (refine wpList_loadI rfl 33 (.tmp 4) rfl _ 33 p 8 _ rfl S0.out.P Try.underlying33 rfl size8 HP.out ?_))
  refine (KG.out _ (R0.out.more (by simp; omega))).mono ?_
  rintro e w1 ⟨rfl, hB⟩
  have S1 := hid (S0.out.below hB)
  clear hB S0 R0 KG
  by_cases hg : goodF a p l = true
  · have HG := hid hg
    rw [hg]
    have y1 := HYY.out
    have z1 := HZZ.out
    rw [if_pos hg] at y1 z1
    have HY1 := hid y1
    have HZ1 := hid z1
    clear y1 z1
    obtain ⟨ga, gz, gp, gl⟩ : okP a = true ∧ a.getD 0 0 = 4096 ∧ all16 p = true ∧ all16 l = true := by simpa [goodF] using hg
    have GA := hid ga
    have GP := hid gp
    have GL := hid gl
    clear hg ga gz gp gl
    go_wp2
    go_loopw [9, 20] (fun ov iv wr => ∃ (k : Nat) (A : Option Addr) (c : Nat) (ys : List Int), k ≤ n ∧ iv = .int .i64 k ∧ ov = .slice A k c ∧ Hid (ys = undoN a p l k) ∧ Hid (Own wr (w.heap.size + 3) A c ys) ∧ Hid (Sx w wr a p)) (fun _ iv _ => n - (intOf iv).toNat)
    case atStart => exact ⟨0, none, 0, [], by omega, rfl, rfl, hid rfl, hid Own.nil, S1⟩
    case round =>
      clear S1
      obtain ⟨k, A, c, ys, hk, rfl, rfl, HY, HO, HS⟩ := hrel
      have YL := hid (show ys.length = k by rw [HY.out, undoN_len])
      by_cases hlt : k < n
      · obtain ⟨ad, rfl, hadb, c1⟩ := (HR.out.below HS.out.bel).at_ (k := k) (by rw [HN.out]; exact hlt)
        have xb := all16_at GL.out k
        have q16 := hid (show all16 (newL p (l.take k)) = true from newL_all _ _ GP.out (all16_take GL.out k))
        have YN := hid (show ys ++ [s16 (l.getD k 0 + guessL a (newL p (l.take k)))] = undoN a p l (k + 1) by rw [undoN, ← HY.out])
        have R1 := hid (HR.out.below HS.out.bel)
        obtain ⟨x, hx⟩ : ∃ x, x = l.getD k 0 := ⟨_, rfl⟩
        rw [← hx] at c1 xb YN
        have gb := guess_bound GA.out q16.out
        have K1 := hid (fun W hW => refguess_any a p l (some ad) c0 n k W HA.out HP.out GA.out GP.out GL.out hW HN.out (by omega) (by omega) hc)
        generalize guessL a (newL p (l.take k)) = g at *
        obtain ⟨x1, x2⟩ := xb
        obtain ⟨g1, g2⟩ := gb
        have hw1 : IntKind.i64.wrap (x + g) = x + g := by rw [IntKind.wrap_i64]; omega
        obtain ⟨y, hy⟩ : ∃ y, y = s16 (x + g) := ⟨_, rfl⟩
        rw [← hy] at YN
        have HX := hid hx
        have KS := hid (fun W => S_any (x + g) W (by omega) (by omega))
        rw [← hy] at KS
        clear hx hy
        go_wp2_with (first
          | (refine wpList_loadI rfl 37 (.tmp 3) rfl _ 37 a 9 _ rfl HS.out.A Try.underlying37 rfl size9 HA.out ?_)
          | (refine wpList_loadI rfl 33 (.tmp 4) rfl _ 33 p 8 _ rfl HS.out.P Try.underlying33 rfl size8 HP.out ?_))
        refine (K1.out _ (R1.out.more (by have := HS.out.lt; omega))).mono ?_
        rintro e w2 ⟨rfl, hB⟩
        have S2 := hid (HS.out.below hB)
        have O2 := hid (HO.out.below hB)
        clear hB HS HO c1
        go_wp2_with fail
        refine (KS.out _).mono ?_
        rintro e w3 ⟨rfl, hB⟩
        have S3 := hid (S2.out.below hB)
        have O3 := hid (O2.out.below hB)
        clear hB S2 O2
        go_wp2_with (at_builtin; refine wpList_pushN rfl (.tmp 25) (.tmp 34) rfl (w.heap.size + 3) A c k ys rfl YL.out (O3.out.alloc _) ⟨w3.heap.size, 0, none⟩ y rfl (cell_new w3 _ _) (by omega) (Nat.le_trans S3.out.lt (by simp)) ?_; intro A2 c2 w5 hO hG hA; have O5 := hid hO; have G5 := hid hG; clear hO hG hA)
        have S5 := hid ((S3.out.alloc _).grown (O3.out.alloc _) G5.out)
        go_wp2
        go_roundw
        case rel => exact ⟨k + 1, A2, c2, _, by omega, by go_num, rfl, YN, O5, S5⟩
        case measure => simp [intOf] <;> omega
      · obtain rfl : k = n := by omega
        have FY := hid (show Y = ys by rw [HY1.out, HY.out])
        have KN := hid (fun (W : World) (hW : Rs W W.heap.size A0 l) => newest_any p l A0 c0 k 0 W HP.out hW HN.out (by omega))
        have FZ := hid (show Z = newL p l from HZ1.out)
        have ZL := hid (show (newL p l).length = 8 from newL_len _ _ HP.out)
        have R1 := hid (HR.out.below HS.out.bel)
        go_wp2_with (refine wpList_loadI rfl 33 (.tmp 4) rfl _ 33 p 8 _ rfl HS.out.P Try.underlying33 rfl size8 HP.out ?_)
        refine (KN.out _ (R1.out.more (by have := HS.out.lt; omega))).mono ?_
        rintro e w2 ⟨rfl, hB⟩
        have S2 := hid (HS.out.below hB)
        have O2 := hid (HO.out.below hB)
        clear hB HS HO
        go_wp2_with (refine wpList_storeI rfl 33 (.tmp 7) (.tmp 40) rfl _ 33 Z8 (newL p l) 8 rfl rfl S2.out.R size8 rfl ZL.out ?_)
        refine bodyPost_ret (v := _) (hR _ _ _ 33 (newL p l) _ 8 rfl (IB.setRow S2.out.R _) Try.underlying33 rfl size8 ZL.out) rfl ?_
        exact ⟨A, c, by rw [FY.out, FZ.out, YL.out, HG.out]; rfl, by rw [FY.out]; exact (O2.out.setRow (by omega) _).more (by omega), below_setRow S2.out.bel (by omega) _⟩
  · have hb : goodF a p l = false := by simpa using hg
    rw [hb]
    have hRow := hid (S1.out.R)
    go_wp2_with (refine wpList_storeI rfl 33 (.tmp 7) (.tmp 17) rfl _ 33 Z8 Z8 8 rfl rfl S1.out.R size8 rfl rfl ?_)
    refine bodyPost_ret (v := _) (hR _ _ _ 33 Z8 _ 8 rfl (IB.setRow S1.out.R Z8) Try.underlying33 rfl size8 rfl) rfl ?_
    have y1 := HYY.out
    have z1 := HZZ.out
    rw [if_neg hg] at y1 z1
    subst y1
    subst z1
    exact ⟨none, 0, by rw [hb]; rfl, Own.nil, below_setRow S1.out.bel (by omega) _⟩
end Go.Proofs.Ythajpmilccpgeaa

/- The walk of the law SynthMakes. -/
namespace Go.Proofs.Ythajpmilccpgeaa
set_option linter.unusedVariables false
set_option linter.unusedSimpArgs false
set_option maxRecDepth 100000
open Go.RowKit

/-- Behind the program's call: both boxes, the answer's past, the answer's samples. -/
structure SLx (w V : World) (a p q Y : List Int) (A : Option Addr) (g : Nat) : Prop where
  I : IB V w.heap.size 37 a
  J : IB V (w.heap.size + 1) 33 p
  Q : IB V g 33 q
  R : Rs V V.heap.size A Y
  B : Below w.heap.size w V
theorem SLx.below {w V V' : World} {a p q Y : List Int} {A : Option Addr} {g : Nat} (h : SLx w V a p q Y A g) (hb : Below V.heap.size V V') : SLx w V' a p q Y A g :=
  ⟨Blk.below' h.I hb, Blk.below' h.J hb, Blk.below' h.Q hb, (h.R.below hb).more hb.size, h.B.trans (hb.mono h.B.size)⟩

theorem make5_any (W : World) (g : Nat) (hg : g < W.heap.size) (h5 : W.cell? ⟨g, 0, none⟩ = some (.int .i64 5)) :
    Calls Try.prog 35 #[.agg #[Value.int .i64 4096, Value.int .i64 0, Value.int .i64 0, Value.int .i64 0, Value.int .i64 0, Value.int .i64 0, Value.int .i64 0, Value.int .i64 0, Value.int .i64 0], .agg #[Value.int .i64 0, Value.int .i64 0, Value.int .i64 0, Value.int .i64 0, Value.int .i64 0, Value.int .i64 0, Value.int .i64 0, Value.int .i64 0], .slice (some ⟨g, 0, none⟩) 1 1] W (fun e w' => ∃ A3 c3 q er, q.length = 8 ∧ e = .returned (.tuple #[.slice A3 1 c3, .agg (agi q), .int .i64 er]) ∧ Below W.heap.size W w') := by
  have hR : Rs W W.heap.size (some ⟨g, 0, none⟩) [5] := ⟨rfl, fun _ => ⟨_, rfl, hg, fun j u hu => by
    rcases j with _ | j
    · rw [add_zero', ← Option.some_inj.1 hu]; exact h5
    · simp [ints] at hu⟩⟩
  refine (synthMake_any [4096, 0, 0, 0, 0, 0, 0, 0, 0] Z8 [5] (some ⟨g, 0, none⟩) 1 1 W rfl rfl hR rfl (by omega)).mono ?_
  rintro e w' ⟨A3, c3, h1, _, h3⟩
  have hgood : goodF [4096, 0, 0, 0, 0, 0, 0, 0, 0] Z8 [5] = true := by decide
  rw [hgood, if_pos rfl, if_pos rfl] at h1
  rw [makeN_len] at h1
  exact ⟨A3, c3, _, _, newL_len _ _ rfl, h1, h3⟩

set_option maxHeartbeats 4000000 in
theorem walkSynthMakes (w : World) (a : List Int) (ha : a.length = 9) (_ : W64 a) (p : List Int) (hp : p.length = 8) (_ : W64 p) (A : Option Addr) (c : Nat) (xs : List Int) (hr : Rs w w.heap.size A xs) (_ : W64 xs) (hl : xs.length ≤ c) (hc : c * 8 ≤ 140737488351232) :
    Calls Try.prog 12 #[.agg (agi a), .agg (agi p), .slice A xs.length c] w fun e w' => e = .returned (.bool true) ∧ Below w.heap.size w w' := by
  obtain ⟨n, hn⟩ : ∃ n, xs.length = n := ⟨_, rfl⟩
  obtain ⟨Y, hY⟩ : ∃ Y, Y = (if goodF a p xs then makeN a p xs n else []) := ⟨_, rfl⟩
  obtain ⟨q, hq⟩ : ∃ q, q = (if goodF a p xs then newL p (makeN a p xs n) else Z8) := ⟨_, rfl⟩
  obtain ⟨er, her⟩ : ∃ er, er = errOf (goodF a p xs) := ⟨_, rfl⟩
  have hql : q.length = 8 := by rw [hq]; split; exact newL_len _ _ hp; rfl
  have K1 := fun W A1 c1 (h : Rs W W.heap.size A1 xs) => synthMake_any a p xs A1 c1 n W ha hp h hn (by omega)
  have K2 := fun W (h : Rs W W.heap.size A xs) => refMake_any a p xs A c n W ha hp h hn (by omega) (by omega)
  have KI : ∀ W, Rs W W.heap.size A xs → Calls Try.prog 31 #[.slice A n c] W (fun e w' => ∃ A1 c1, e = .returned (.slice A1 n c1) ∧ Own w' W.heap.size A1 c1 xs ∧ Below W.heap.size W w') := fun W h => by
    have := ints_any A c xs W h (by omega)
    rw [hn] at this
    exact this.mono fun e w' ⟨A1, c1, h1, h2, h3⟩ => ⟨A1, c1, by rw [← hn]; exact h1, h2, h3⟩
  rw [hn]
  rw [← hY, ← hq, ← her] at K1 K2
  have YL : Y.length ≤ n := by rw [hY]; split; exact Nat.le_of_eq (makeN_len _ _ _ _); exact Nat.zero_le _
  clear hY hq her
  obtain ⟨q0, q1, q2, q3, q4, q5, q6, q7, rfl⟩ := list8 hql
  obtain ⟨p0, p1, p2, p3, p4, p5, p6, p7, rfl⟩ := list8 hp
  have hI := IB.new w 37 a
  have hJ := IB.new (w.alloc (.cells (agi a) 37)) 33 [p0, p1, p2, p3, p4, p5, p6, p7]
  simp only [World.size_alloc] at hJ
  have hI := Blk.alloc hI (.cells (agi [p0, p1, p2, p3, p4, p5, p6, p7]) 33)
  have hB := (((Below.refl _ w).alloc (Nat.le_refl _) (.cells (agi a) 37)).alloc (by simp) (.cells (agi [p0, p1, p2, p3, p4, p5, p6, p7]) 33))
  have hs : ((w.alloc (.cells (agi a) 37)).alloc (.cells (agi [p0, p1, p2, p3, p4, p5, p6, p7]) 33)).heap.size = w.heap.size + 1 + 1 := by simp
  have hr1 := hr.below hB
  rw [agi8] at hI hJ hB hs hr1 K1 K2
  generalize hW : (w.alloc (.cells (agi a) 37)).alloc (.cells #[.int .i64 p0, .int .i64 p1, .int .i64 p2, .int .i64 p3, .int .i64 p4, .int .i64 p5, .int .i64 p6, .int .i64 p7] 33) = W at hI hJ hB hs hr1
  have cw0 : World.cell? W ⟨w.heap.size + 1, 0, none⟩ = some (.int .i64 p0) := IB.cell hJ 0 (by first | decide | simp); have cw1 : World.cell? W ⟨w.heap.size + 1, 1, none⟩ = some (.int .i64 p1) := IB.cell hJ 1 (by first | decide | simp); have cw2 : World.cell? W ⟨w.heap.size + 1, 2, none⟩ = some (.int .i64 p2) := IB.cell hJ 2 (by first | decide | simp); have cw3 : World.cell? W ⟨w.heap.size + 1, 3, none⟩ = some (.int .i64 p3) := IB.cell hJ 3 (by first | decide | simp); have cw4 : World.cell? W ⟨w.heap.size + 1, 4, none⟩ = some (.int .i64 p4) := IB.cell hJ 4 (by first | decide | simp); have cw5 : World.cell? W ⟨w.heap.size + 1, 5, none⟩ = some (.int .i64 p5) := IB.cell hJ 5 (by first | decide | simp); have cw6 : World.cell? W ⟨w.heap.size + 1, 6, none⟩ = some (.int .i64 p6) := IB.cell hJ 6 (by first | decide | simp); have cw7 : World.cell? W ⟨w.heap.size + 1, 7, none⟩ = some (.int .i64 p7) := IB.cell hJ 7 (by first | decide | simp)
  have rg : W.rangeAt w.heap.size 0 (ints a) := IB.rangeAt hI
  have HR2 := hid (fun W2 (hb : Below W.heap.size W W2) => (hr1.below (hb.mono (by omega))).more (show w.heap.size ≤ W2.heap.size from by have := hb.size; omega))
  have HI := hid hI
  have HJ := hid hJ
  have HB := hid hB
  have HS := hid hs
  have HA := hid ha
  have HN := hid hn
  have HQ := hid hql
  have HP := hid hp
  have HC := hid hc
  have HL := hid hl
  have HYL := hid YL
  have HR := hid hr
  have K1 : ∀ W A1 c1, Rs W W.heap.size A1 xs → Calls Try.prog 35 #[.agg (ints a).toArray, .agg #[Value.int .i64 p0, Value.int .i64 p1, Value.int .i64 p2, Value.int .i64 p3, Value.int .i64 p4, Value.int .i64 p5, Value.int .i64 p6, Value.int .i64 p7], .slice A1 n c1] W (fun e w' => ∃ A3 c3, e = .returned (.tuple #[.slice A3 Y.length c3, .agg #[Value.int .i64 q0, Value.int .i64 q1, Value.int .i64 q2, Value.int .i64 q3, Value.int .i64 q4, Value.int .i64 q5, Value.int .i64 q6, Value.int .i64 q7], Value.int .i64 er]) ∧ Own w' W.heap.size A3 c3 Y ∧ Below W.heap.size W w') := K1
  have K2 : ∀ W, Rs W W.heap.size A xs → Calls Try.prog 36 #[.agg (agi a), .agg (agi [p0, p1, p2, p3, p4, p5, p6, p7]), .slice A n c] W (fun e w' => ∃ A3 c3, e = .returned (.tuple #[.slice A3 Y.length c3, .agg (agi [q0, q1, q2, q3, q4, q5, q6, q7]), .int .i64 er]) ∧ Own w' W.heap.size A3 c3 Y ∧ Below W.heap.size W w') := K2
  have K3 := fun W g hg h5 => make5_any W g hg h5
  have K1' := hid K1
  have K2' := hid K2
  have K3' := hid K3
  have heq := run_eql_agi Try.underlying33 [q0, q1, q2, q3, q4, q5, q6, q7] rfl
  have KI' := hid KI
  have hu9 := Try.underlying37
  have hi9 : (Try.prog.info? 37).map (·.size) = some (ints a).length := by rw [ints_len, ha]; exact size9
  clear hI hJ hB hs hr1 ha hn hql hp hc hl hr YL K1 K2 K3 KI
  go_enter Try.func12, Try.ntmps12
  go_wp2
  rw [agi8, hW]
  clear hW
  have hltI : w.heap.size < W.heap.size := by have := HS.out; omega
  have hltJ : w.heap.size + 1 < W.heap.size := by have := HS.out; omega
  go_region_held3 (fun w' => w'.rangeAt w.heap.size 0 (ints a) ∧ w'.cell? ⟨w.heap.size + 1, 0, none⟩ = some (.int .i64 p0) ∧ w'.cell? ⟨w.heap.size + 1, 1, none⟩ = some (.int .i64 p1) ∧ w'.cell? ⟨w.heap.size + 1, 2, none⟩ = some (.int .i64 p2) ∧ w'.cell? ⟨w.heap.size + 1, 3, none⟩ = some (.int .i64 p3) ∧ w'.cell? ⟨w.heap.size + 1, 4, none⟩ = some (.int .i64 p4) ∧ w'.cell? ⟨w.heap.size + 1, 5, none⟩ = some (.int .i64 p5) ∧ w'.cell? ⟨w.heap.size + 1, 6, none⟩ = some (.int .i64 p6) ∧ w'.cell? ⟨w.heap.size + 1, 7, none⟩ = some (.int .i64 p7)) ((first | ((with_reducible refine ⟨World.rangeAt_alloc (by assumption) _, ?_⟩); go_keep) | ((with_reducible refine ⟨rangeAt_alloc_drew (by assumption) _, ?_⟩); go_keep) | ((with_reducible refine ⟨rangeAt_far8 (by assumption) (by omega) _ _ _ _ _ _ _ _, ?_⟩); go_keep) | go_keep)) (first
    | (go_at_call 31; (with_reducible refine (KI'.out _ (HR2.out W.drew ((Below.refl _ _).drew))).mono ?_); rintro e w2 ⟨A1, c1, rfl, hO, hBx⟩; have I2 : IB w2 w.heap.size 37 a := Blk.below' (Blk.drew HI.out) hBx; have J2 : IB w2 (w.heap.size + 1) 33 [p0, p1, p2, p3, p4, p5, p6, p7] := Blk.below' (Blk.drew HJ.out) hBx; have B2 := hid ((HB.out.trans (((Below.refl _ _).drew : Below W.heap.size W _).mono (show w.heap.size ≤ W.heap.size by omega))).trans (hBx.mono (by simp; omega))); have R2 := hid hO.reads; have s2 : W.heap.size ≤ w2.heap.size := (by have := hBx.size; simp at this; omega); have rgw2 : World.rangeAt w2 w.heap.size 0 (ints a) := IB.rangeAt I2; have k0 : World.cell? w2 ⟨w.heap.size + 1, 0, none⟩ = some (.int .i64 p0) := IB.cell J2 0 (by first | decide | simp); have k1 : World.cell? w2 ⟨w.heap.size + 1, 1, none⟩ = some (.int .i64 p1) := IB.cell J2 1 (by first | decide | simp); have k2 : World.cell? w2 ⟨w.heap.size + 1, 2, none⟩ = some (.int .i64 p2) := IB.cell J2 2 (by first | decide | simp); have k3 : World.cell? w2 ⟨w.heap.size + 1, 3, none⟩ = some (.int .i64 p3) := IB.cell J2 3 (by first | decide | simp); have k4 : World.cell? w2 ⟨w.heap.size + 1, 4, none⟩ = some (.int .i64 p4) := IB.cell J2 4 (by first | decide | simp); have k5 : World.cell? w2 ⟨w.heap.size + 1, 5, none⟩ = some (.int .i64 p5) := IB.cell J2 5 (by first | decide | simp); have k6 : World.cell? w2 ⟨w.heap.size + 1, 6, none⟩ = some (.int .i64 p6) := IB.cell J2 6 (by first | decide | simp); have k7 : World.cell? w2 ⟨w.heap.size + 1, 7, none⟩ = some (.int .i64 p7) := IB.cell J2 7 (by first | decide | simp); have I2 := hid I2; have J2 := hid J2; clear hO hBx)
    | (go_at_call 31; (with_reducible refine (KI'.out _ (HR2.out (W.alloc (.cells #[Value.int .i64 0, Value.int .i64 0, Value.int .i64 0, Value.int .i64 0, Value.int .i64 0, Value.int .i64 0, Value.int .i64 0, Value.int .i64 0] 33)).drew (((Below.refl _ _).alloc (Nat.le_refl _) _).drew))).mono ?_); rintro e w2 ⟨A1, c1, rfl, hO, hBx⟩; have I2 : IB w2 w.heap.size 37 a := Blk.below' (Blk.drew (Blk.alloc HI.out _)) hBx; have J2 : IB w2 (w.heap.size + 1) 33 [p0, p1, p2, p3, p4, p5, p6, p7] := Blk.below' (Blk.drew (Blk.alloc HJ.out _)) hBx; have B2 := hid ((HB.out.trans ((((Below.refl _ _).alloc (Nat.le_refl _) _).drew : Below W.heap.size W _).mono (show w.heap.size ≤ W.heap.size by omega))).trans (hBx.mono (by simp; omega))); have R2 := hid hO.reads; have s2 : W.heap.size ≤ w2.heap.size := (by have := hBx.size; simp at this; omega); have Z2 := hid (show IB w2 W.heap.size 33 Z8 from Blk.below' (Blk.drew (IB.new W 33 Z8)) hBx); have rgw2 : World.rangeAt w2 w.heap.size 0 (ints a) := IB.rangeAt I2; have k0 : World.cell? w2 ⟨w.heap.size + 1, 0, none⟩ = some (.int .i64 p0) := IB.cell J2 0 (by first | decide | simp); have k1 : World.cell? w2 ⟨w.heap.size + 1, 1, none⟩ = some (.int .i64 p1) := IB.cell J2 1 (by first | decide | simp); have k2 : World.cell? w2 ⟨w.heap.size + 1, 2, none⟩ = some (.int .i64 p2) := IB.cell J2 2 (by first | decide | simp); have k3 : World.cell? w2 ⟨w.heap.size + 1, 3, none⟩ = some (.int .i64 p3) := IB.cell J2 3 (by first | decide | simp); have k4 : World.cell? w2 ⟨w.heap.size + 1, 4, none⟩ = some (.int .i64 p4) := IB.cell J2 4 (by first | decide | simp); have k5 : World.cell? w2 ⟨w.heap.size + 1, 5, none⟩ = some (.int .i64 p5) := IB.cell J2 5 (by first | decide | simp); have k6 : World.cell? w2 ⟨w.heap.size + 1, 6, none⟩ = some (.int .i64 p6) := IB.cell J2 6 (by first | decide | simp); have k7 : World.cell? w2 ⟨w.heap.size + 1, 7, none⟩ = some (.int .i64 p7) := IB.cell J2 7 (by first | decide | simp); have I2 := hid I2; have J2 := hid J2; clear hO hBx)
    | (go_at_call 35; (with_reducible refine (K1'.out (w2.alloc (.cells #[Value.int .i64 0, Value.int .i64 0, Value.int .i64 0, Value.int .i64 0, Value.int .i64 0, Value.int .i64 0, Value.int .i64 0, Value.int .i64 0] 33)) A1 c1 ((R2.out.below ((Below.refl _ _).alloc (Nat.le_refl _) _)).more (by simp))).mono ?_); rintro e w3 ⟨A3, c3, rfl, hO, hBx⟩; have I3 : IB w3 w.heap.size 37 a := Blk.below' (Blk.alloc I2.out _) hBx; have J3 : IB w3 (w.heap.size + 1) 33 [p0, p1, p2, p3, p4, p5, p6, p7] := Blk.below' (Blk.alloc J2.out _) hBx; have B3 := hid (((B2.out).alloc (show w.heap.size ≤ w2.heap.size by omega) (.cells (agi Z8) 33)).trans (hBx.mono (by simp; omega))); have O3 := hid hO; have n1 : ¬ w2.heap.size = w.heap.size + 1 := (by omega); have n2 : ¬ w.heap.size + 1 = w2.heap.size := (by omega); have Z3 : IB w3 w2.heap.size 33 Z8 := Blk.below' (IB.new w2 33 Z8) hBx; have z0 : World.cell? w3 ⟨w2.heap.size, 0, none⟩ = some (.int .i64 0) := IB.cell Z3 0 (by first | decide | simp); have z1 : World.cell? w3 ⟨w2.heap.size, 1, none⟩ = some (.int .i64 0) := IB.cell Z3 1 (by first | decide | simp); have z2 : World.cell? w3 ⟨w2.heap.size, 2, none⟩ = some (.int .i64 0) := IB.cell Z3 2 (by first | decide | simp); have z3 : World.cell? w3 ⟨w2.heap.size, 3, none⟩ = some (.int .i64 0) := IB.cell Z3 3 (by first | decide | simp); have z4 : World.cell? w3 ⟨w2.heap.size, 4, none⟩ = some (.int .i64 0) := IB.cell Z3 4 (by first | decide | simp); have z5 : World.cell? w3 ⟨w2.heap.size, 5, none⟩ = some (.int .i64 0) := IB.cell Z3 5 (by first | decide | simp); have z6 : World.cell? w3 ⟨w2.heap.size, 6, none⟩ = some (.int .i64 0) := IB.cell Z3 6 (by first | decide | simp); have z7 : World.cell? w3 ⟨w2.heap.size, 7, none⟩ = some (.int .i64 0) := IB.cell Z3 7 (by first | decide | simp); have y0 : World.frozen? w3 ⟨w2.heap.size, 0, none⟩ = false := Blk.frozen Z3 0; have y1 : World.frozen? w3 ⟨w2.heap.size, 1, none⟩ = false := Blk.frozen Z3 1; have y2 : World.frozen? w3 ⟨w2.heap.size, 2, none⟩ = false := Blk.frozen Z3 2; have y3 : World.frozen? w3 ⟨w2.heap.size, 3, none⟩ = false := Blk.frozen Z3 3; have y4 : World.frozen? w3 ⟨w2.heap.size, 4, none⟩ = false := Blk.frozen Z3 4; have y5 : World.frozen? w3 ⟨w2.heap.size, 5, none⟩ = false := Blk.frozen Z3 5; have y6 : World.frozen? w3 ⟨w2.heap.size, 6, none⟩ = false := Blk.frozen Z3 6; have y7 : World.frozen? w3 ⟨w2.heap.size, 7, none⟩ = false := Blk.frozen Z3 7; have Z3 := hid Z3; have rgw3 : World.rangeAt w3 w.heap.size 0 (ints a) := IB.rangeAt I3; have m0 : World.cell? w3 ⟨w.heap.size + 1, 0, none⟩ = some (.int .i64 p0) := IB.cell J3 0 (by first | decide | simp); have m1 : World.cell? w3 ⟨w.heap.size + 1, 1, none⟩ = some (.int .i64 p1) := IB.cell J3 1 (by first | decide | simp); have m2 : World.cell? w3 ⟨w.heap.size + 1, 2, none⟩ = some (.int .i64 p2) := IB.cell J3 2 (by first | decide | simp); have m3 : World.cell? w3 ⟨w.heap.size + 1, 3, none⟩ = some (.int .i64 p3) := IB.cell J3 3 (by first | decide | simp); have m4 : World.cell? w3 ⟨w.heap.size + 1, 4, none⟩ = some (.int .i64 p4) := IB.cell J3 4 (by first | decide | simp); have m5 : World.cell? w3 ⟨w.heap.size + 1, 5, none⟩ = some (.int .i64 p5) := IB.cell J3 5 (by first | decide | simp); have m6 : World.cell? w3 ⟨w.heap.size + 1, 6, none⟩ = some (.int .i64 p6) := IB.cell J3 6 (by first | decide | simp); have m7 : World.cell? w3 ⟨w.heap.size + 1, 7, none⟩ = some (.int .i64 p7) := IB.cell J3 7 (by first | decide | simp); have I3 := hid I3; have J3 := hid J3; clear hO hBx)
    | (go_at_call 35; have Z2' := Z2.out; (with_reducible refine (K1'.out w2 A1 c1 R2.out).mono ?_); rintro e w3 ⟨A3, c3, rfl, hO, hBx⟩; have I3 : IB w3 w.heap.size 37 a := Blk.below' (I2.out) hBx; have J3 : IB w3 (w.heap.size + 1) 33 [p0, p1, p2, p3, p4, p5, p6, p7] := Blk.below' (J2.out) hBx; have B3 := hid (B2.out.trans (hBx.mono (show w.heap.size ≤ w2.heap.size by omega))); have O3 := hid hO; have n1 : ¬ W.heap.size = w.heap.size + 1 := (by omega); have n2 : ¬ w.heap.size + 1 = W.heap.size := (by omega); have Z3 : IB w3 W.heap.size 33 Z8 := Blk.below' Z2.out hBx; have z0 : World.cell? w3 ⟨W.heap.size, 0, none⟩ = some (.int .i64 0) := IB.cell Z3 0 (by first | decide | simp); have z1 : World.cell? w3 ⟨W.heap.size, 1, none⟩ = some (.int .i64 0) := IB.cell Z3 1 (by first | decide | simp); have z2 : World.cell? w3 ⟨W.heap.size, 2, none⟩ = some (.int .i64 0) := IB.cell Z3 2 (by first | decide | simp); have z3 : World.cell? w3 ⟨W.heap.size, 3, none⟩ = some (.int .i64 0) := IB.cell Z3 3 (by first | decide | simp); have z4 : World.cell? w3 ⟨W.heap.size, 4, none⟩ = some (.int .i64 0) := IB.cell Z3 4 (by first | decide | simp); have z5 : World.cell? w3 ⟨W.heap.size, 5, none⟩ = some (.int .i64 0) := IB.cell Z3 5 (by first | decide | simp); have z6 : World.cell? w3 ⟨W.heap.size, 6, none⟩ = some (.int .i64 0) := IB.cell Z3 6 (by first | decide | simp); have z7 : World.cell? w3 ⟨W.heap.size, 7, none⟩ = some (.int .i64 0) := IB.cell Z3 7 (by first | decide | simp); have y0 : World.frozen? w3 ⟨W.heap.size, 0, none⟩ = false := Blk.frozen Z3 0; have y1 : World.frozen? w3 ⟨W.heap.size, 1, none⟩ = false := Blk.frozen Z3 1; have y2 : World.frozen? w3 ⟨W.heap.size, 2, none⟩ = false := Blk.frozen Z3 2; have y3 : World.frozen? w3 ⟨W.heap.size, 3, none⟩ = false := Blk.frozen Z3 3; have y4 : World.frozen? w3 ⟨W.heap.size, 4, none⟩ = false := Blk.frozen Z3 4; have y5 : World.frozen? w3 ⟨W.heap.size, 5, none⟩ = false := Blk.frozen Z3 5; have y6 : World.frozen? w3 ⟨W.heap.size, 6, none⟩ = false := Blk.frozen Z3 6; have y7 : World.frozen? w3 ⟨W.heap.size, 7, none⟩ = false := Blk.frozen Z3 7; have Z3 := hid Z3; have rgw3 : World.rangeAt w3 w.heap.size 0 (ints a) := IB.rangeAt I3; have m0 : World.cell? w3 ⟨w.heap.size + 1, 0, none⟩ = some (.int .i64 p0) := IB.cell J3 0 (by first | decide | simp); have m1 : World.cell? w3 ⟨w.heap.size + 1, 1, none⟩ = some (.int .i64 p1) := IB.cell J3 1 (by first | decide | simp); have m2 : World.cell? w3 ⟨w.heap.size + 1, 2, none⟩ = some (.int .i64 p2) := IB.cell J3 2 (by first | decide | simp); have m3 : World.cell? w3 ⟨w.heap.size + 1, 3, none⟩ = some (.int .i64 p3) := IB.cell J3 3 (by first | decide | simp); have m4 : World.cell? w3 ⟨w.heap.size + 1, 4, none⟩ = some (.int .i64 p4) := IB.cell J3 4 (by first | decide | simp); have m5 : World.cell? w3 ⟨w.heap.size + 1, 5, none⟩ = some (.int .i64 p5) := IB.cell J3 5 (by first | decide | simp); have m6 : World.cell? w3 ⟨w.heap.size + 1, 6, none⟩ = some (.int .i64 p6) := IB.cell J3 6 (by first | decide | simp); have m7 : World.cell? w3 ⟨w.heap.size + 1, 7, none⟩ = some (.int .i64 p7) := IB.cell J3 7 (by first | decide | simp); have I3 := hid I3; have J3 := hid J3; clear hO hBx)
    | (go_at_call 35; (with_reducible refine (K1'.out w2 A1 c1 (R2.out)).mono ?_); rintro e w3 ⟨A3, c3, rfl, hO, hBx⟩; have I3 : IB w3 w.heap.size 37 a := Blk.below' (I2.out) hBx; have J3 : IB w3 (w.heap.size + 1) 33 [p0, p1, p2, p3, p4, p5, p6, p7] := Blk.below' (J2.out) hBx; have B3 := hid (B2.out.trans (hBx.mono (show w.heap.size ≤ w2.heap.size by omega))); have O3 := hid hO; have rgw3 : World.rangeAt w3 w.heap.size 0 (ints a) := IB.rangeAt I3; have m0 : World.cell? w3 ⟨w.heap.size + 1, 0, none⟩ = some (.int .i64 p0) := IB.cell J3 0 (by first | decide | simp); have m1 : World.cell? w3 ⟨w.heap.size + 1, 1, none⟩ = some (.int .i64 p1) := IB.cell J3 1 (by first | decide | simp); have m2 : World.cell? w3 ⟨w.heap.size + 1, 2, none⟩ = some (.int .i64 p2) := IB.cell J3 2 (by first | decide | simp); have m3 : World.cell? w3 ⟨w.heap.size + 1, 3, none⟩ = some (.int .i64 p3) := IB.cell J3 3 (by first | decide | simp); have m4 : World.cell? w3 ⟨w.heap.size + 1, 4, none⟩ = some (.int .i64 p4) := IB.cell J3 4 (by first | decide | simp); have m5 : World.cell? w3 ⟨w.heap.size + 1, 5, none⟩ = some (.int .i64 p5) := IB.cell J3 5 (by first | decide | simp); have m6 : World.cell? w3 ⟨w.heap.size + 1, 6, none⟩ = some (.int .i64 p6) := IB.cell J3 6 (by first | decide | simp); have m7 : World.cell? w3 ⟨w.heap.size + 1, 7, none⟩ = some (.int .i64 p7) := IB.cell J3 7 (by first | decide | simp); have I3 := hid I3; have J3 := hid J3; clear hO hBx))
  all_goals
    rename_i hHeldZ
    clear hHeldZ
    first
      | (have z2 := Z2.out
         clear z2
         have SV : SLx w (World.setCell (World.setCell (World.setCell (World.setCell (World.setCell (World.setCell (World.setCell (World.setCell w3 ⟨W.heap.size, 0, none⟩ (.int .i64 q0)) ⟨W.heap.size, 1, none⟩ (.int .i64 q1)) ⟨W.heap.size, 2, none⟩ (.int .i64 q2)) ⟨W.heap.size, 3, none⟩ (.int .i64 q3)) ⟨W.heap.size, 4, none⟩ (.int .i64 q4)) ⟨W.heap.size, 5, none⟩ (.int .i64 q5)) ⟨W.heap.size, 6, none⟩ (.int .i64 q6)) ⟨W.heap.size, 7, none⟩ (.int .i64 q7)) a [p0, p1, p2, p3, p4, p5, p6, p7] [q0, q1, q2, q3, q4, q5, q6, q7] Y A3 W.heap.size := ⟨Blk.far8 I3.out (by omega) _ _ _ _ _ _ _ _, Blk.far8 J3.out (by omega) _ _ _ _ _ _ _ _, IB.set8 Z3.out q0 q1 q2 q3 q4 q5 q6 q7, (O3.out.set8 (Blk.lt Z2.out) q0 q1 q2 q3 q4 q5 q6 q7).reads, below_set8 B3.out (by omega) q0 q1 q2 q3 q4 q5 q6 q7⟩
         obtain ⟨V, hV⟩ : ∃ V, V = (World.setCell (World.setCell (World.setCell (World.setCell (World.setCell (World.setCell (World.setCell (World.setCell w3 ⟨W.heap.size, 0, none⟩ (.int .i64 q0)) ⟨W.heap.size, 1, none⟩ (.int .i64 q1)) ⟨W.heap.size, 2, none⟩ (.int .i64 q2)) ⟨W.heap.size, 3, none⟩ (.int .i64 q3)) ⟨W.heap.size, 4, none⟩ (.int .i64 q4)) ⟨W.heap.size, 5, none⟩ (.int .i64 q5)) ⟨W.heap.size, 6, none⟩ (.int .i64 q6)) ⟨W.heap.size, 7, none⟩ (.int .i64 q7)) := ⟨_, rfl⟩
         rw [← hV] at SV ⊢
         have SV' := hid SV
         clear SV hV)
      | (have z3 := Z3.out
         clear z3
         have SV : SLx w (World.setCell (World.setCell (World.setCell (World.setCell (World.setCell (World.setCell (World.setCell (World.setCell w3 ⟨w2.heap.size, 0, none⟩ (.int .i64 q0)) ⟨w2.heap.size, 1, none⟩ (.int .i64 q1)) ⟨w2.heap.size, 2, none⟩ (.int .i64 q2)) ⟨w2.heap.size, 3, none⟩ (.int .i64 q3)) ⟨w2.heap.size, 4, none⟩ (.int .i64 q4)) ⟨w2.heap.size, 5, none⟩ (.int .i64 q5)) ⟨w2.heap.size, 6, none⟩ (.int .i64 q6)) ⟨w2.heap.size, 7, none⟩ (.int .i64 q7)) a [p0, p1, p2, p3, p4, p5, p6, p7] [q0, q1, q2, q3, q4, q5, q6, q7] Y A3 w2.heap.size := ⟨Blk.far8 I3.out (by omega) _ _ _ _ _ _ _ _, Blk.far8 J3.out (by omega) _ _ _ _ _ _ _ _, IB.set8 Z3.out q0 q1 q2 q3 q4 q5 q6 q7, (O3.out.set8 (by simp) q0 q1 q2 q3 q4 q5 q6 q7).reads, below_set8 B3.out (by omega) q0 q1 q2 q3 q4 q5 q6 q7⟩
         obtain ⟨V, hV⟩ : ∃ V, V = (World.setCell (World.setCell (World.setCell (World.setCell (World.setCell (World.setCell (World.setCell (World.setCell w3 ⟨w2.heap.size, 0, none⟩ (.int .i64 q0)) ⟨w2.heap.size, 1, none⟩ (.int .i64 q1)) ⟨w2.heap.size, 2, none⟩ (.int .i64 q2)) ⟨w2.heap.size, 3, none⟩ (.int .i64 q3)) ⟨w2.heap.size, 4, none⟩ (.int .i64 q4)) ⟨w2.heap.size, 5, none⟩ (.int .i64 q5)) ⟨w2.heap.size, 6, none⟩ (.int .i64 q6)) ⟨w2.heap.size, 7, none⟩ (.int .i64 q7)) := ⟨_, rfl⟩
         rw [← hV] at SV ⊢
         have SV' := hid SV
         clear SV hV)
      | (have SV : SLx w (w3.alloc (.cells #[Value.int .i64 q0, Value.int .i64 q1, Value.int .i64 q2, Value.int .i64 q3, Value.int .i64 q4, Value.int .i64 q5, Value.int .i64 q6, Value.int .i64 q7] 33)) a [p0, p1, p2, p3, p4, p5, p6, p7] [q0, q1, q2, q3, q4, q5, q6, q7] Y A3 w3.heap.size := ⟨Blk.alloc I3.out _, Blk.alloc J3.out _, IB.new w3 33 [q0, q1, q2, q3, q4, q5, q6, q7], (O3.out.alloc _).reads, B3.out.alloc (by have := B3.out.size; omega) _⟩
         obtain ⟨V, hV⟩ : ∃ V, V = (w3.alloc (.cells #[Value.int .i64 q0, Value.int .i64 q1, Value.int .i64 q2, Value.int .i64 q3, Value.int .i64 q4, Value.int .i64 q5, Value.int .i64 q6, Value.int .i64 q7] 33)) := ⟨_, rfl⟩
         rw [← hV] at SV ⊢
         have SV' := hid SV
         clear SV hV)
  all_goals
    try clear z0 z1 z2 z3 z4 z5 z6 z7 y0 y1 y2 y3 y4 y5 y6 y7
    clear k0 k1 k2 k3 k4 k5 k6 k7 m0 m1 m2 m3 m4 m5 m6 m7
    clear cw0 cw1 cw2 cw3 cw4 cw5 cw6 cw7
    clear rg rgw2 rgw3
    simp only [Exit.then]
    have RV := hid ((HR.out.below SV'.out.B).more SV'.out.B.size)
    go_wp2_with (first
      | (refine wpList_loadI rfl 37 (.tmp 3) rfl _ 37 a 9 _ rfl SV'.out.I Try.underlying37 rfl size9 HA.out ?_)
      | (refine wpList_loadI rfl 33 (.tmp 4) rfl _ 33 [p0, p1, p2, p3, p4, p5, p6, p7] 8 _ rfl SV'.out.J Try.underlying33 rfl size8 rfl ?_))
    refine (K2'.out _ RV.out).mono ?_
    rintro e w4 ⟨A4, c4, rfl, hO, hB⟩
    have S4 := hid (SV'.out.below hB)
    have R4 := hid hO.reads
    clear hB hO SV'
    go_wp2_with (refine wpList_storeI rfl 33 (.tmp 11) (.tmp 31) rfl _ 33 Z8 [q0, q1, q2, q3, q4, q5, q6, q7] 8 rfl rfl (IB.new w4 33 Z8) size8 rfl rfl ?_
                 obtain ⟨w5, hw5⟩ : ∃ w5, w5 = (w4.alloc (.cells #[Value.int .i64 0, Value.int .i64 0, Value.int .i64 0, Value.int .i64 0, Value.int .i64 0, Value.int .i64 0, Value.int .i64 0, Value.int .i64 0] 33)).setRow w4.heap.size (agi [q0, q1, q2, q3, q4, q5, q6, q7]) := ⟨_, rfl⟩
                 rw [← hw5]
                 have S5 := hid (show SLx w w5 a _ [q0, q1, q2, q3, q4, q5, q6, q7] Y A3 _ by rw [hw5]; exact S4.out.below (below_stored w4 (.cells (agi Z8) 33) _))
                 have R5 := hid (show Rs w5 w5.heap.size A4 Y by rw [hw5]; exact (R4.out.below (below_stored w4 (.cells (agi Z8) 33) _)).more (below_stored w4 (.cells (agi Z8) 33) (agi [q0, q1, q2, q3, q4, q5, q6, q7])).size)
                 have Q5 := hid (show IB w5 w4.heap.size 33 [q0, q1, q2, q3, q4, q5, q6, q7] by rw [hw5]; exact IB.stored w4 33 Z8 [q0, q1, q2, q3, q4, q5, q6, q7])
                 clear hw5)
    clear S4 R4
    refine (K3'.out _ w5.heap.size (by simp) (cell_new w5 _ _)).mono ?_
    rintro e w6 ⟨A6, c6, q', er', hq', rfl, hB⟩
    have L5 := (Below.refl w5.heap.size w5).alloc (Nat.le_refl _) (.cells #[.int .i64 5] 3)
    have hB6 := L5.trans (hB.mono (by simp))
    have S6 := hid (S5.out.below hB6)
    have R6 := hid ((R5.out.below hB6).more hB6.size)
    have Q6 := hid (Blk.below' Q5.out hB6)
    have HQ' := hid hq'
    clear hB hB6 L5 S5 R5 Q5 hq'
    go_wp2_with (refine wpList_storeI rfl 33 (.tmp 14) (.tmp 39) rfl _ 33 Z8 q' 8 rfl rfl (IB.new w6 33 Z8) size8 rfl HQ'.out ?_
                 obtain ⟨w7, hw7⟩ : ∃ w7, w7 = (w6.alloc (.cells #[Value.int .i64 0, Value.int .i64 0, Value.int .i64 0, Value.int .i64 0, Value.int .i64 0, Value.int .i64 0, Value.int .i64 0, Value.int .i64 0] 33)).setRow w6.heap.size (agi q') := ⟨_, rfl⟩
                 rw [← hw7]
                 have B7 := hid (show Below w6.heap.size w6 w7 by rw [hw7]; exact below_stored w6 (.cells (agi Z8) 33) _)
                 clear hw7)
    have S7 := hid (S6.out.below B7.out)
    have R7 := hid ((R6.out.below B7.out).more B7.out.size)
    have Q7 := hid (Blk.below' Q6.out B7.out)
    clear S6 R6 Q6
    refine (Same_yes A3 A4 c3 c4 Y.length _ _ Y _ S7.out.R R7.out rfl (by have := HYL.out; have := HC.out; have := HL.out; have := HN.out; omega)).mono ?_
    rintro e w8 ⟨rfl, hB⟩
    have S8 := hid (S7.out.below hB)
    have Q8 := hid (Blk.below' Q7.out hB)
    clear hB S7 Q7 R7
    go_wp2_with (first
      | (refine wpList_loadI rfl 33 (.tmp 8) rfl _ 33 [q0, q1, q2, q3, q4, q5, q6, q7] 8 _ rfl S8.out.Q Try.underlying33 rfl size8 rfl ?_)
      | (refine wpList_loadI rfl 33 (.tmp 11) rfl _ 33 [q0, q1, q2, q3, q4, q5, q6, q7] 8 _ rfl Q8.out Try.underlying33 rfl size8 rfl ?_))
    go_ret
    exact ⟨by simp, S8.out.B⟩
end Go.Proofs.Ythajpmilccpgeaa

/- The walk of package synth's Undo. -/
namespace Go.Proofs.Ythajpmilccpgeaa
set_option linter.unusedVariables false
set_option linter.unusedSimpArgs false
set_option maxRecDepth 100000
open Go.RowKit

set_option maxHeartbeats 4000000 in
theorem synthUndo_any (a p l : List Int) (A0 : Option Addr) (c0 n : Nat) (w : World) (ha : a.length = 9) (hp : p.length = 8) (hr : Rs w w.heap.size A0 l) (hn : l.length = n) (hl : n ≤ 17592186044000) :
    Calls Try.prog 37 #[.agg (agi a), .agg (agi p), .slice A0 n c0] w (NewSP w (if goodF a p l then undoN a p l n else []) (if goodF a p l then newL p l else Z8) (errOf (goodF a p l))) := by
  have hR := results_mid3 (fn := Try.f37) (p := 6) (q := 7) (r := 8) (ty := 33) rfl
  have S0 := Sx.start w a p
  have R0 := hr.below S0.bel
  rw [z8_eq] at S0
  rw [z8_eq] at R0
  have S0 := hid S0
  have R0 := hid R0
  have HA := hid ha
  have HP := hid hp
  have HN := hid hn
  have HR := hid hr
  have KG := hid (fun (W : World) (hW : Rs W W.heap.size A0 l) => synthgood_any a p l A0 c0 n 0 W ha hp hW hn (by omega))
  clear ha hp hn hr
  obtain ⟨Y, hY⟩ : ∃ Y, Y = (if goodF a p l then undoN a p l n else []) := ⟨_, rfl⟩
  obtain ⟨Z, hZ⟩ : ∃ Z, Z = (if goodF a p l then newL p l else Z8) := ⟨_, rfl⟩
  rw [← hY, ← hZ]
  have HYY := hid hY
  have HZZ := hid hZ
  clear hY hZ
  go_enter Try.func37, Try.ntmps37
  go_wp2_with (first
    | (refine wpList_loadI rfl 37 (.tmp 3) rfl _ 37 a 9 _ rfl S0.out.A Try.underlying37 rfl size9 HA.out ?_)
    | (refine wpList_loadI rfl 33 (.tmp 4) rfl _ 33 p 8 _ rfl S0.out.P Try.underlying33 rfl size8 HP.out ?_))
  refine (KG.out _ (R0.out.more (by simp; omega))).mono ?_
  rintro e w1 ⟨rfl, hB⟩
  have S1 := hid (S0.out.below hB)
  clear hB S0 R0 KG
  by_cases hg : goodF a p l = true
  · have HG := hid hg
    rw [hg]
    have y1 := HYY.out
    have z1 := HZZ.out
    rw [if_pos hg] at y1 z1
    have HY1 := hid y1
    have HZ1 := hid z1
    clear y1 z1
    obtain ⟨ga, gz, gp, gl⟩ : okP a = true ∧ a.getD 0 0 = 4096 ∧ all16 p = true ∧ all16 l = true := by simpa [goodF] using hg
    have GA := hid ga
    have GP := hid gp
    have GL := hid gl
    clear hg ga gz gp gl
    go_wp2
    go_loopw [9, 20] (fun ov iv wr => ∃ (k : Nat) (A : Option Addr) (c : Nat) (q ys : List Int), k ≤ n ∧ iv = .int .i64 k ∧ ov = .slice A k c ∧ Hid (ys = undoN a p l k) ∧ Hid (q = newL p (l.take k)) ∧ Hid (Own wr (w.heap.size + 3) A c ys) ∧ Hid (Sx w wr a q)) (fun _ iv _ => n - (intOf iv).toNat)
    case atStart => exact ⟨0, none, 0, p, [], by omega, rfl, rfl, hid rfl, hid rfl, hid Own.nil, S1⟩
    case round =>
      clear S1
      obtain ⟨k, A, c, q, ys, hk, rfl, rfl, HY, HQ, HO, HS⟩ := hrel
      have HQL := hid (show q.length = 8 by rw [HQ.out]; exact newL_len _ _ HP.out)
      by_cases hlt : k < n
      · have q16 := hid (show all16 q = true by rw [HQ.out]; exact newL_all _ _ GP.out (all16_take GL.out k))
        obtain ⟨ad, rfl, hadb, c1⟩ := (HR.out.below HS.out.bel).at_ (k := k) (by rw [HN.out]; exact hlt)
        have xb := all16_at GL.out k
        have YN := hid (show ys ++ [s16 (l.getD k 0 + guessL a q)] = undoN a p l (k + 1) by rw [undoN, ← HY.out, HQ.out])
        have QN := hid (show pushL q (l.getD k 0) = newL p (l.take (k + 1)) by rw [take_snoc (by rw [HN.out]; exact hlt), newL_snoc, HQ.out])
        obtain ⟨x, hx⟩ : ∃ x, x = l.getD k 0 := ⟨_, rfl⟩
        rw [← hx] at c1 xb YN QN
        have gb := guess_bound GA.out q16.out
        have K1 := hid (fun W => synthguess_any a q W HA.out HQL.out GA.out q16.out)
        generalize guessL a q = g at *
        obtain ⟨x1, x2⟩ := xb
        obtain ⟨g1, g2⟩ := gb
        have hw1 : IntKind.i64.wrap (x + g) = x + g := by rw [IntKind.wrap_i64]; omega
        obtain ⟨y, hy⟩ : ∃ y, y = s16 (x + g) := ⟨_, rfl⟩
        rw [← hy] at YN
        have KS := hid (fun W => synthsat_any (x + g) W)
        rw [← hy] at KS
        have LP := hid (pushL_len HQL.out x)
        have HX := hid hx
        have YL := hid (show ys.length = k by rw [HY.out, undoN_len])
        clear hx hy
        go_wp2_with (first
          | (refine wpList_loadI rfl 37 (.tmp 3) rfl _ 37 a 9 _ rfl HS.out.A Try.underlying37 rfl size9 HA.out ?_)
          | (refine wpList_loadI rfl 33 (.tmp 4) rfl _ 33 q 8 _ rfl HS.out.P Try.underlying33 rfl size8 HQL.out ?_))
        refine (K1.out _).mono ?_
        rintro e w2 ⟨rfl, hB⟩
        have S2 := hid (HS.out.below hB)
        have O2 := hid (HO.out.below hB)
        clear hB HS HO c1
        go_wp2_with (first
          | (go_at_call 63; refine (KS.out _).mono ?_; rintro e w' ⟨rfl, rfl⟩)
          | (refine wpList_loadI rfl 33 (.tmp 4) rfl _ 33 q 8 _ rfl S5.out.P Try.underlying33 rfl size8 HQL.out ?_)
          | (at_builtin; refine wpList_pushN rfl (.tmp 24) (.tmp 31) rfl (w.heap.size + 3) A c k ys rfl YL.out (O2.out.alloc _) ⟨w2.heap.size, 0, none⟩ y rfl (cell_new w2 _ _) (by omega) (Nat.le_trans S2.out.lt (by simp)) ?_; intro A2 c2 w5 hO hG hA; have O5 := hid hO; have S5 := hid ((S2.out.alloc _).grown (O2.out.alloc _) hG); clear hO hG hA))
        refine (synthpush_any q x _ HQL.out).mono ?_
        rintro e w6 ⟨rfl, hB⟩
        have S6 := hid (S5.out.below hB)
        have O6 := hid (O5.out.below hB)
        clear hB S5 O5 S2 O2
        go_wp2_with (first
          | (refine wpList_storeI rfl 33 (.tmp 4) (.tmp 35) rfl _ 33 q (pushL q x) 8 rfl rfl S6.out.P size8 HQL.out LP.out ?_
             obtain ⟨w7, hw7⟩ : ∃ w7, w7 = w6.setRow (w.heap.size + 1) (agi (pushL q x)) := ⟨_, rfl⟩
             rw [← hw7]
             have S7 := hid (show Sx w w7 a (pushL q x) by rw [hw7]; exact S6.out.setP _)
             have O7 := hid (show Own w7 (w.heap.size + 3) A2 c2 (ys ++ [y]) by rw [hw7]; exact O6.out.setRow (by omega) _)
             clear hw7))
        go_roundw
        case rel => exact ⟨k + 1, A2, c2, _, _, by omega, by go_num, rfl, YN, QN, O7, S7⟩
        case measure => simp [intOf] <;> omega
      · obtain rfl : k = n := by omega
        obtain ⟨q0, q1, q2, q3, q4, q5, q6, q7, rfl⟩ := list8 HQL.out
        have c0 : wr.cell? ⟨w.heap.size + 1, 0, none⟩ = some (.int .i64 q0) := IB.cell HS.out.P 0 (by simp)
        have c1 : wr.cell? ⟨w.heap.size + 1, 1, none⟩ = some (.int .i64 q1) := IB.cell HS.out.P 1 (by simp)
        have c2 : wr.cell? ⟨w.heap.size + 1, 2, none⟩ = some (.int .i64 q2) := IB.cell HS.out.P 2 (by simp)
        have c3 : wr.cell? ⟨w.heap.size + 1, 3, none⟩ = some (.int .i64 q3) := IB.cell HS.out.P 3 (by simp)
        have c4 : wr.cell? ⟨w.heap.size + 1, 4, none⟩ = some (.int .i64 q4) := IB.cell HS.out.P 4 (by simp)
        have c5 : wr.cell? ⟨w.heap.size + 1, 5, none⟩ = some (.int .i64 q5) := IB.cell HS.out.P 5 (by simp)
        have c6 : wr.cell? ⟨w.heap.size + 1, 6, none⟩ = some (.int .i64 q6) := IB.cell HS.out.P 6 (by simp)
        have c7 : wr.cell? ⟨w.heap.size + 1, 7, none⟩ = some (.int .i64 q7) := IB.cell HS.out.P 7 (by simp)
        have r0 : wr.cell? ⟨w.heap.size + 1 + 1, 0, none⟩ = some (.int .i64 0) := IB.cell HS.out.R 0 (by decide)
        have r1 : wr.cell? ⟨w.heap.size + 1 + 1, 1, none⟩ = some (.int .i64 0) := IB.cell HS.out.R 1 (by decide)
        have r2 : wr.cell? ⟨w.heap.size + 1 + 1, 2, none⟩ = some (.int .i64 0) := IB.cell HS.out.R 2 (by decide)
        have r3 : wr.cell? ⟨w.heap.size + 1 + 1, 3, none⟩ = some (.int .i64 0) := IB.cell HS.out.R 3 (by decide)
        have r4 : wr.cell? ⟨w.heap.size + 1 + 1, 4, none⟩ = some (.int .i64 0) := IB.cell HS.out.R 4 (by decide)
        have r5 : wr.cell? ⟨w.heap.size + 1 + 1, 5, none⟩ = some (.int .i64 0) := IB.cell HS.out.R 5 (by decide)
        have r6 : wr.cell? ⟨w.heap.size + 1 + 1, 6, none⟩ = some (.int .i64 0) := IB.cell HS.out.R 6 (by decide)
        have r7 : wr.cell? ⟨w.heap.size + 1 + 1, 7, none⟩ = some (.int .i64 0) := IB.cell HS.out.R 7 (by decide)
        have f0 : wr.frozen? ⟨w.heap.size + 1 + 1, 0, none⟩ = false := Blk.frozen HS.out.R 0
        have f1 : wr.frozen? ⟨w.heap.size + 1 + 1, 1, none⟩ = false := Blk.frozen HS.out.R 1
        have f2 : wr.frozen? ⟨w.heap.size + 1 + 1, 2, none⟩ = false := Blk.frozen HS.out.R 2
        have f3 : wr.frozen? ⟨w.heap.size + 1 + 1, 3, none⟩ = false := Blk.frozen HS.out.R 3
        have f4 : wr.frozen? ⟨w.heap.size + 1 + 1, 4, none⟩ = false := Blk.frozen HS.out.R 4
        have f5 : wr.frozen? ⟨w.heap.size + 1 + 1, 5, none⟩ = false := Blk.frozen HS.out.R 5
        have f6 : wr.frozen? ⟨w.heap.size + 1 + 1, 6, none⟩ = false := Blk.frozen HS.out.R 6
        have f7 : wr.frozen? ⟨w.heap.size + 1 + 1, 7, none⟩ = false := Blk.frozen HS.out.R 7
        have IR := hid (Blk.drew (IB.set8 HS.out.R q0 q1 q2 q3 q4 q5 q6 q7))
        have OR := hid ((HO.out.set8 (g := w.heap.size + 2) (by omega) q0 q1 q2 q3 q4 q5 q6 q7).drew.more (base' := w.heap.size) (by omega))
        have BR := hid (below_set8 HS.out.bel (g := w.heap.size + 2) (by omega) q0 q1 q2 q3 q4 q5 q6 q7).drew
        have FY := hid (show Y = ys by rw [HY1.out, HY.out])
        have FZ := hid (show Z = [q0, q1, q2, q3, q4, q5, q6, q7] by rw [HZ1.out, HQ.out, List.take_of_length_le (by rw [HN.out]; exact Nat.le_refl _)])
        have YL := hid (show ys.length = k by rw [HY.out, undoN_len])
        go_wp2
        go_region
        clear c0 c1 c2 c3 c4 c5 c6 c7 r0 r1 r2 r3 r4 r5 r6 r7 f0 f1 f2 f3 f4 f5 f6 f7
        simp only [Exit.then]
        go_wp2
        refine bodyPost_ret (v := _) (hR _ _ _ 33 [q0, q1, q2, q3, q4, q5, q6, q7] _ 8 rfl IR.out Try.underlying33 rfl size8 rfl) rfl ?_
        exact ⟨A, c, by rw [FY.out, FZ.out, YL.out, HG.out]; rfl, by rw [FY.out]; exact OR.out, BR.out⟩
  · have hb : goodF a p l = false := by simpa using hg
    rw [hb]
    have hRow := hid (S1.out.R)
    go_wp2_with (refine wpList_storeI rfl 33 (.tmp 7) (.tmp 17) rfl _ 33 Z8 Z8 8 rfl rfl S1.out.R size8 rfl rfl ?_)
    refine bodyPost_ret (v := _) (hR _ _ _ 33 Z8 _ 8 rfl (IB.setRow S1.out.R Z8) Try.underlying33 rfl size8 rfl) rfl ?_
    have y1 := HYY.out
    have z1 := HZZ.out
    rw [if_neg hg] at y1 z1
    subst y1
    subst z1
    exact ⟨none, 0, by rw [hb]; rfl, Own.nil, below_setRow S1.out.bel (by omega) _⟩
end Go.Proofs.Ythajpmilccpgeaa

/- The walk of the law SynthUndoes. -/
namespace Go.Proofs.Ythajpmilccpgeaa
set_option linter.unusedVariables false
set_option linter.unusedSimpArgs false
set_option maxRecDepth 100000
open Go.RowKit

theorem undo5_any (W : World) (g : Nat) (hg : g < W.heap.size) (h5 : W.cell? ⟨g, 0, none⟩ = some (.int .i64 5)) :
    Calls Try.prog 37 #[.agg #[Value.int .i64 4096, Value.int .i64 0, Value.int .i64 0, Value.int .i64 0, Value.int .i64 0, Value.int .i64 0, Value.int .i64 0, Value.int .i64 0, Value.int .i64 0], .agg #[Value.int .i64 0, Value.int .i64 0, Value.int .i64 0, Value.int .i64 0, Value.int .i64 0, Value.int .i64 0, Value.int .i64 0, Value.int .i64 0], .slice (some ⟨g, 0, none⟩) 1 1] W (fun e w' => ∃ A3 c3 q er, q.length = 8 ∧ e = .returned (.tuple #[.slice A3 1 c3, .agg (agi q), .int .i64 er]) ∧ Below W.heap.size W w') := by
  have hR : Rs W W.heap.size (some ⟨g, 0, none⟩) [5] := ⟨rfl, fun _ => ⟨_, rfl, hg, fun j u hu => by
    rcases j with _ | j
    · rw [add_zero', ← Option.some_inj.1 hu]; exact h5
    · simp [ints] at hu⟩⟩
  refine (synthUndo_any [4096, 0, 0, 0, 0, 0, 0, 0, 0] Z8 [5] (some ⟨g, 0, none⟩) 1 1 W rfl rfl hR rfl (by omega)).mono ?_
  rintro e w' ⟨A3, c3, h1, _, h3⟩
  have hgood : goodF [4096, 0, 0, 0, 0, 0, 0, 0, 0] Z8 [5] = true := by decide
  rw [hgood, if_pos rfl, if_pos rfl] at h1
  rw [undoN_len] at h1
  exact ⟨A3, c3, _, _, newL_len _ _ rfl, h1, h3⟩

set_option maxHeartbeats 4000000 in
theorem walkSynthUndoes (w : World) (a : List Int) (ha : a.length = 9) (_ : W64 a) (p : List Int) (hp : p.length = 8) (_ : W64 p) (A : Option Addr) (c : Nat) (xs : List Int) (hr : Rs w w.heap.size A xs) (_ : W64 xs) (hl : xs.length ≤ c) (hc : c * 8 ≤ 140737488351232) :
    Calls Try.prog 13 #[.agg (agi a), .agg (agi p), .slice A xs.length c] w fun e w' => e = .returned (.bool true) ∧ Below w.heap.size w w' := by
  obtain ⟨n, hn⟩ : ∃ n, xs.length = n := ⟨_, rfl⟩
  obtain ⟨Y, hY⟩ : ∃ Y, Y = (if goodF a p xs then undoN a p xs n else []) := ⟨_, rfl⟩
  obtain ⟨q, hq⟩ : ∃ q, q = (if goodF a p xs then newL p xs else Z8) := ⟨_, rfl⟩
  obtain ⟨er, her⟩ : ∃ er, er = errOf (goodF a p xs) := ⟨_, rfl⟩
  have hql : q.length = 8 := by rw [hq]; split; exact newL_len _ _ hp; rfl
  have K1 := fun W A1 c1 (h : Rs W W.heap.size A1 xs) => synthUndo_any a p xs A1 c1 n W ha hp h hn (by omega)
  have K2 := fun W (h : Rs W W.heap.size A xs) => refUndo_any a p xs A c n W ha hp h hn (by omega) (by omega)
  have KI : ∀ W, Rs W W.heap.size A xs → Calls Try.prog 31 #[.slice A n c] W (fun e w' => ∃ A1 c1, e = .returned (.slice A1 n c1) ∧ Own w' W.heap.size A1 c1 xs ∧ Below W.heap.size W w') := fun W h => by
    have := ints_any A c xs W h (by omega)
    rw [hn] at this
    exact this.mono fun e w' ⟨A1, c1, h1, h2, h3⟩ => ⟨A1, c1, by rw [← hn]; exact h1, h2, h3⟩
  rw [hn]
  rw [← hY, ← hq, ← her] at K1 K2
  have YL : Y.length ≤ n := by rw [hY]; split; exact Nat.le_of_eq (undoN_len _ _ _ _); exact Nat.zero_le _
  clear hY hq her
  obtain ⟨q0, q1, q2, q3, q4, q5, q6, q7, rfl⟩ := list8 hql
  obtain ⟨p0, p1, p2, p3, p4, p5, p6, p7, rfl⟩ := list8 hp
  have hI := IB.new w 37 a
  have hJ := IB.new (w.alloc (.cells (agi a) 37)) 33 [p0, p1, p2, p3, p4, p5, p6, p7]
  simp only [World.size_alloc] at hJ
  have hI := Blk.alloc hI (.cells (agi [p0, p1, p2, p3, p4, p5, p6, p7]) 33)
  have hB := (((Below.refl _ w).alloc (Nat.le_refl _) (.cells (agi a) 37)).alloc (by simp) (.cells (agi [p0, p1, p2, p3, p4, p5, p6, p7]) 33))
  have hs : ((w.alloc (.cells (agi a) 37)).alloc (.cells (agi [p0, p1, p2, p3, p4, p5, p6, p7]) 33)).heap.size = w.heap.size + 1 + 1 := by simp
  have hr1 := hr.below hB
  rw [agi8] at hI hJ hB hs hr1 K1 K2
  generalize hW : (w.alloc (.cells (agi a) 37)).alloc (.cells #[.int .i64 p0, .int .i64 p1, .int .i64 p2, .int .i64 p3, .int .i64 p4, .int .i64 p5, .int .i64 p6, .int .i64 p7] 33) = W at hI hJ hB hs hr1
  have cw0 : World.cell? W ⟨w.heap.size + 1, 0, none⟩ = some (.int .i64 p0) := IB.cell hJ 0 (by first | decide | simp); have cw1 : World.cell? W ⟨w.heap.size + 1, 1, none⟩ = some (.int .i64 p1) := IB.cell hJ 1 (by first | decide | simp); have cw2 : World.cell? W ⟨w.heap.size + 1, 2, none⟩ = some (.int .i64 p2) := IB.cell hJ 2 (by first | decide | simp); have cw3 : World.cell? W ⟨w.heap.size + 1, 3, none⟩ = some (.int .i64 p3) := IB.cell hJ 3 (by first | decide | simp); have cw4 : World.cell? W ⟨w.heap.size + 1, 4, none⟩ = some (.int .i64 p4) := IB.cell hJ 4 (by first | decide | simp); have cw5 : World.cell? W ⟨w.heap.size + 1, 5, none⟩ = some (.int .i64 p5) := IB.cell hJ 5 (by first | decide | simp); have cw6 : World.cell? W ⟨w.heap.size + 1, 6, none⟩ = some (.int .i64 p6) := IB.cell hJ 6 (by first | decide | simp); have cw7 : World.cell? W ⟨w.heap.size + 1, 7, none⟩ = some (.int .i64 p7) := IB.cell hJ 7 (by first | decide | simp)
  have rg : W.rangeAt w.heap.size 0 (ints a) := IB.rangeAt hI
  have HR2 := hid (fun W2 (hb : Below W.heap.size W W2) => (hr1.below (hb.mono (by omega))).more (show w.heap.size ≤ W2.heap.size from by have := hb.size; omega))
  have HI := hid hI
  have HJ := hid hJ
  have HB := hid hB
  have HS := hid hs
  have HA := hid ha
  have HN := hid hn
  have HQ := hid hql
  have HP := hid hp
  have HC := hid hc
  have HL := hid hl
  have HYL := hid YL
  have HR := hid hr
  have K1 : ∀ W A1 c1, Rs W W.heap.size A1 xs → Calls Try.prog 37 #[.agg (ints a).toArray, .agg #[Value.int .i64 p0, Value.int .i64 p1, Value.int .i64 p2, Value.int .i64 p3, Value.int .i64 p4, Value.int .i64 p5, Value.int .i64 p6, Value.int .i64 p7], .slice A1 n c1] W (fun e w' => ∃ A3 c3, e = .returned (.tuple #[.slice A3 Y.length c3, .agg #[Value.int .i64 q0, Value.int .i64 q1, Value.int .i64 q2, Value.int .i64 q3, Value.int .i64 q4, Value.int .i64 q5, Value.int .i64 q6, Value.int .i64 q7], Value.int .i64 er]) ∧ Own w' W.heap.size A3 c3 Y ∧ Below W.heap.size W w') := K1
  have K2 : ∀ W, Rs W W.heap.size A xs → Calls Try.prog 38 #[.agg (agi a), .agg (agi [p0, p1, p2, p3, p4, p5, p6, p7]), .slice A n c] W (fun e w' => ∃ A3 c3, e = .returned (.tuple #[.slice A3 Y.length c3, .agg (agi [q0, q1, q2, q3, q4, q5, q6, q7]), .int .i64 er]) ∧ Own w' W.heap.size A3 c3 Y ∧ Below W.heap.size W w') := K2
  have K3 := fun W g hg h5 => undo5_any W g hg h5
  have K1' := hid K1
  have K2' := hid K2
  have K3' := hid K3
  have heq := run_eql_agi Try.underlying33 [q0, q1, q2, q3, q4, q5, q6, q7] rfl
  have KI' := hid KI
  have hu9 := Try.underlying37
  have hi9 : (Try.prog.info? 37).map (·.size) = some (ints a).length := by rw [ints_len, ha]; exact size9
  clear hI hJ hB hs hr1 ha hn hql hp hc hl hr YL K1 K2 K3 KI
  go_enter Try.func13, Try.ntmps13
  go_wp2
  rw [agi8, hW]
  clear hW
  have hltI : w.heap.size < W.heap.size := by have := HS.out; omega
  have hltJ : w.heap.size + 1 < W.heap.size := by have := HS.out; omega
  go_region_held3 (fun w' => w'.rangeAt w.heap.size 0 (ints a) ∧ w'.cell? ⟨w.heap.size + 1, 0, none⟩ = some (.int .i64 p0) ∧ w'.cell? ⟨w.heap.size + 1, 1, none⟩ = some (.int .i64 p1) ∧ w'.cell? ⟨w.heap.size + 1, 2, none⟩ = some (.int .i64 p2) ∧ w'.cell? ⟨w.heap.size + 1, 3, none⟩ = some (.int .i64 p3) ∧ w'.cell? ⟨w.heap.size + 1, 4, none⟩ = some (.int .i64 p4) ∧ w'.cell? ⟨w.heap.size + 1, 5, none⟩ = some (.int .i64 p5) ∧ w'.cell? ⟨w.heap.size + 1, 6, none⟩ = some (.int .i64 p6) ∧ w'.cell? ⟨w.heap.size + 1, 7, none⟩ = some (.int .i64 p7)) ((first | ((with_reducible refine ⟨World.rangeAt_alloc (by assumption) _, ?_⟩); go_keep) | ((with_reducible refine ⟨rangeAt_alloc_drew (by assumption) _, ?_⟩); go_keep) | ((with_reducible refine ⟨rangeAt_far8 (by assumption) (by omega) _ _ _ _ _ _ _ _, ?_⟩); go_keep) | go_keep)) (first
    | (go_at_call 31; (with_reducible refine (KI'.out _ (HR2.out W.drew ((Below.refl _ _).drew))).mono ?_); rintro e w2 ⟨A1, c1, rfl, hO, hBx⟩; have I2 : IB w2 w.heap.size 37 a := Blk.below' (Blk.drew HI.out) hBx; have J2 : IB w2 (w.heap.size + 1) 33 [p0, p1, p2, p3, p4, p5, p6, p7] := Blk.below' (Blk.drew HJ.out) hBx; have B2 := hid ((HB.out.trans (((Below.refl _ _).drew : Below W.heap.size W _).mono (show w.heap.size ≤ W.heap.size by omega))).trans (hBx.mono (by simp; omega))); have R2 := hid hO.reads; have s2 : W.heap.size ≤ w2.heap.size := (by have := hBx.size; simp at this; omega); have rgw2 : World.rangeAt w2 w.heap.size 0 (ints a) := IB.rangeAt I2; have k0 : World.cell? w2 ⟨w.heap.size + 1, 0, none⟩ = some (.int .i64 p0) := IB.cell J2 0 (by first | decide | simp); have k1 : World.cell? w2 ⟨w.heap.size + 1, 1, none⟩ = some (.int .i64 p1) := IB.cell J2 1 (by first | decide | simp); have k2 : World.cell? w2 ⟨w.heap.size + 1, 2, none⟩ = some (.int .i64 p2) := IB.cell J2 2 (by first | decide | simp); have k3 : World.cell? w2 ⟨w.heap.size + 1, 3, none⟩ = some (.int .i64 p3) := IB.cell J2 3 (by first | decide | simp); have k4 : World.cell? w2 ⟨w.heap.size + 1, 4, none⟩ = some (.int .i64 p4) := IB.cell J2 4 (by first | decide | simp); have k5 : World.cell? w2 ⟨w.heap.size + 1, 5, none⟩ = some (.int .i64 p5) := IB.cell J2 5 (by first | decide | simp); have k6 : World.cell? w2 ⟨w.heap.size + 1, 6, none⟩ = some (.int .i64 p6) := IB.cell J2 6 (by first | decide | simp); have k7 : World.cell? w2 ⟨w.heap.size + 1, 7, none⟩ = some (.int .i64 p7) := IB.cell J2 7 (by first | decide | simp); have I2 := hid I2; have J2 := hid J2; clear hO hBx)
    | (go_at_call 31; (with_reducible refine (KI'.out _ (HR2.out (W.alloc (.cells #[Value.int .i64 0, Value.int .i64 0, Value.int .i64 0, Value.int .i64 0, Value.int .i64 0, Value.int .i64 0, Value.int .i64 0, Value.int .i64 0] 33)).drew (((Below.refl _ _).alloc (Nat.le_refl _) _).drew))).mono ?_); rintro e w2 ⟨A1, c1, rfl, hO, hBx⟩; have I2 : IB w2 w.heap.size 37 a := Blk.below' (Blk.drew (Blk.alloc HI.out _)) hBx; have J2 : IB w2 (w.heap.size + 1) 33 [p0, p1, p2, p3, p4, p5, p6, p7] := Blk.below' (Blk.drew (Blk.alloc HJ.out _)) hBx; have B2 := hid ((HB.out.trans ((((Below.refl _ _).alloc (Nat.le_refl _) _).drew : Below W.heap.size W _).mono (show w.heap.size ≤ W.heap.size by omega))).trans (hBx.mono (by simp; omega))); have R2 := hid hO.reads; have s2 : W.heap.size ≤ w2.heap.size := (by have := hBx.size; simp at this; omega); have Z2 := hid (show IB w2 W.heap.size 33 Z8 from Blk.below' (Blk.drew (IB.new W 33 Z8)) hBx); have rgw2 : World.rangeAt w2 w.heap.size 0 (ints a) := IB.rangeAt I2; have k0 : World.cell? w2 ⟨w.heap.size + 1, 0, none⟩ = some (.int .i64 p0) := IB.cell J2 0 (by first | decide | simp); have k1 : World.cell? w2 ⟨w.heap.size + 1, 1, none⟩ = some (.int .i64 p1) := IB.cell J2 1 (by first | decide | simp); have k2 : World.cell? w2 ⟨w.heap.size + 1, 2, none⟩ = some (.int .i64 p2) := IB.cell J2 2 (by first | decide | simp); have k3 : World.cell? w2 ⟨w.heap.size + 1, 3, none⟩ = some (.int .i64 p3) := IB.cell J2 3 (by first | decide | simp); have k4 : World.cell? w2 ⟨w.heap.size + 1, 4, none⟩ = some (.int .i64 p4) := IB.cell J2 4 (by first | decide | simp); have k5 : World.cell? w2 ⟨w.heap.size + 1, 5, none⟩ = some (.int .i64 p5) := IB.cell J2 5 (by first | decide | simp); have k6 : World.cell? w2 ⟨w.heap.size + 1, 6, none⟩ = some (.int .i64 p6) := IB.cell J2 6 (by first | decide | simp); have k7 : World.cell? w2 ⟨w.heap.size + 1, 7, none⟩ = some (.int .i64 p7) := IB.cell J2 7 (by first | decide | simp); have I2 := hid I2; have J2 := hid J2; clear hO hBx)
    | (go_at_call 37; (with_reducible refine (K1'.out (w2.alloc (.cells #[Value.int .i64 0, Value.int .i64 0, Value.int .i64 0, Value.int .i64 0, Value.int .i64 0, Value.int .i64 0, Value.int .i64 0, Value.int .i64 0] 33)) A1 c1 ((R2.out.below ((Below.refl _ _).alloc (Nat.le_refl _) _)).more (by simp))).mono ?_); rintro e w3 ⟨A3, c3, rfl, hO, hBx⟩; have I3 : IB w3 w.heap.size 37 a := Blk.below' (Blk.alloc I2.out _) hBx; have J3 : IB w3 (w.heap.size + 1) 33 [p0, p1, p2, p3, p4, p5, p6, p7] := Blk.below' (Blk.alloc J2.out _) hBx; have B3 := hid (((B2.out).alloc (show w.heap.size ≤ w2.heap.size by omega) (.cells (agi Z8) 33)).trans (hBx.mono (by simp; omega))); have O3 := hid hO; have n1 : ¬ w2.heap.size = w.heap.size + 1 := (by omega); have n2 : ¬ w.heap.size + 1 = w2.heap.size := (by omega); have Z3 : IB w3 w2.heap.size 33 Z8 := Blk.below' (IB.new w2 33 Z8) hBx; have z0 : World.cell? w3 ⟨w2.heap.size, 0, none⟩ = some (.int .i64 0) := IB.cell Z3 0 (by first | decide | simp); have z1 : World.cell? w3 ⟨w2.heap.size, 1, none⟩ = some (.int .i64 0) := IB.cell Z3 1 (by first | decide | simp); have z2 : World.cell? w3 ⟨w2.heap.size, 2, none⟩ = some (.int .i64 0) := IB.cell Z3 2 (by first | decide | simp); have z3 : World.cell? w3 ⟨w2.heap.size, 3, none⟩ = some (.int .i64 0) := IB.cell Z3 3 (by first | decide | simp); have z4 : World.cell? w3 ⟨w2.heap.size, 4, none⟩ = some (.int .i64 0) := IB.cell Z3 4 (by first | decide | simp); have z5 : World.cell? w3 ⟨w2.heap.size, 5, none⟩ = some (.int .i64 0) := IB.cell Z3 5 (by first | decide | simp); have z6 : World.cell? w3 ⟨w2.heap.size, 6, none⟩ = some (.int .i64 0) := IB.cell Z3 6 (by first | decide | simp); have z7 : World.cell? w3 ⟨w2.heap.size, 7, none⟩ = some (.int .i64 0) := IB.cell Z3 7 (by first | decide | simp); have y0 : World.frozen? w3 ⟨w2.heap.size, 0, none⟩ = false := Blk.frozen Z3 0; have y1 : World.frozen? w3 ⟨w2.heap.size, 1, none⟩ = false := Blk.frozen Z3 1; have y2 : World.frozen? w3 ⟨w2.heap.size, 2, none⟩ = false := Blk.frozen Z3 2; have y3 : World.frozen? w3 ⟨w2.heap.size, 3, none⟩ = false := Blk.frozen Z3 3; have y4 : World.frozen? w3 ⟨w2.heap.size, 4, none⟩ = false := Blk.frozen Z3 4; have y5 : World.frozen? w3 ⟨w2.heap.size, 5, none⟩ = false := Blk.frozen Z3 5; have y6 : World.frozen? w3 ⟨w2.heap.size, 6, none⟩ = false := Blk.frozen Z3 6; have y7 : World.frozen? w3 ⟨w2.heap.size, 7, none⟩ = false := Blk.frozen Z3 7; have Z3 := hid Z3; have rgw3 : World.rangeAt w3 w.heap.size 0 (ints a) := IB.rangeAt I3; have m0 : World.cell? w3 ⟨w.heap.size + 1, 0, none⟩ = some (.int .i64 p0) := IB.cell J3 0 (by first | decide | simp); have m1 : World.cell? w3 ⟨w.heap.size + 1, 1, none⟩ = some (.int .i64 p1) := IB.cell J3 1 (by first | decide | simp); have m2 : World.cell? w3 ⟨w.heap.size + 1, 2, none⟩ = some (.int .i64 p2) := IB.cell J3 2 (by first | decide | simp); have m3 : World.cell? w3 ⟨w.heap.size + 1, 3, none⟩ = some (.int .i64 p3) := IB.cell J3 3 (by first | decide | simp); have m4 : World.cell? w3 ⟨w.heap.size + 1, 4, none⟩ = some (.int .i64 p4) := IB.cell J3 4 (by first | decide | simp); have m5 : World.cell? w3 ⟨w.heap.size + 1, 5, none⟩ = some (.int .i64 p5) := IB.cell J3 5 (by first | decide | simp); have m6 : World.cell? w3 ⟨w.heap.size + 1, 6, none⟩ = some (.int .i64 p6) := IB.cell J3 6 (by first | decide | simp); have m7 : World.cell? w3 ⟨w.heap.size + 1, 7, none⟩ = some (.int .i64 p7) := IB.cell J3 7 (by first | decide | simp); have I3 := hid I3; have J3 := hid J3; clear hO hBx)
    | (go_at_call 37; have Z2' := Z2.out; (with_reducible refine (K1'.out w2 A1 c1 R2.out).mono ?_); rintro e w3 ⟨A3, c3, rfl, hO, hBx⟩; have I3 : IB w3 w.heap.size 37 a := Blk.below' (I2.out) hBx; have J3 : IB w3 (w.heap.size + 1) 33 [p0, p1, p2, p3, p4, p5, p6, p7] := Blk.below' (J2.out) hBx; have B3 := hid (B2.out.trans (hBx.mono (show w.heap.size ≤ w2.heap.size by omega))); have O3 := hid hO; have n1 : ¬ W.heap.size = w.heap.size + 1 := (by omega); have n2 : ¬ w.heap.size + 1 = W.heap.size := (by omega); have Z3 : IB w3 W.heap.size 33 Z8 := Blk.below' Z2.out hBx; have z0 : World.cell? w3 ⟨W.heap.size, 0, none⟩ = some (.int .i64 0) := IB.cell Z3 0 (by first | decide | simp); have z1 : World.cell? w3 ⟨W.heap.size, 1, none⟩ = some (.int .i64 0) := IB.cell Z3 1 (by first | decide | simp); have z2 : World.cell? w3 ⟨W.heap.size, 2, none⟩ = some (.int .i64 0) := IB.cell Z3 2 (by first | decide | simp); have z3 : World.cell? w3 ⟨W.heap.size, 3, none⟩ = some (.int .i64 0) := IB.cell Z3 3 (by first | decide | simp); have z4 : World.cell? w3 ⟨W.heap.size, 4, none⟩ = some (.int .i64 0) := IB.cell Z3 4 (by first | decide | simp); have z5 : World.cell? w3 ⟨W.heap.size, 5, none⟩ = some (.int .i64 0) := IB.cell Z3 5 (by first | decide | simp); have z6 : World.cell? w3 ⟨W.heap.size, 6, none⟩ = some (.int .i64 0) := IB.cell Z3 6 (by first | decide | simp); have z7 : World.cell? w3 ⟨W.heap.size, 7, none⟩ = some (.int .i64 0) := IB.cell Z3 7 (by first | decide | simp); have y0 : World.frozen? w3 ⟨W.heap.size, 0, none⟩ = false := Blk.frozen Z3 0; have y1 : World.frozen? w3 ⟨W.heap.size, 1, none⟩ = false := Blk.frozen Z3 1; have y2 : World.frozen? w3 ⟨W.heap.size, 2, none⟩ = false := Blk.frozen Z3 2; have y3 : World.frozen? w3 ⟨W.heap.size, 3, none⟩ = false := Blk.frozen Z3 3; have y4 : World.frozen? w3 ⟨W.heap.size, 4, none⟩ = false := Blk.frozen Z3 4; have y5 : World.frozen? w3 ⟨W.heap.size, 5, none⟩ = false := Blk.frozen Z3 5; have y6 : World.frozen? w3 ⟨W.heap.size, 6, none⟩ = false := Blk.frozen Z3 6; have y7 : World.frozen? w3 ⟨W.heap.size, 7, none⟩ = false := Blk.frozen Z3 7; have Z3 := hid Z3; have rgw3 : World.rangeAt w3 w.heap.size 0 (ints a) := IB.rangeAt I3; have m0 : World.cell? w3 ⟨w.heap.size + 1, 0, none⟩ = some (.int .i64 p0) := IB.cell J3 0 (by first | decide | simp); have m1 : World.cell? w3 ⟨w.heap.size + 1, 1, none⟩ = some (.int .i64 p1) := IB.cell J3 1 (by first | decide | simp); have m2 : World.cell? w3 ⟨w.heap.size + 1, 2, none⟩ = some (.int .i64 p2) := IB.cell J3 2 (by first | decide | simp); have m3 : World.cell? w3 ⟨w.heap.size + 1, 3, none⟩ = some (.int .i64 p3) := IB.cell J3 3 (by first | decide | simp); have m4 : World.cell? w3 ⟨w.heap.size + 1, 4, none⟩ = some (.int .i64 p4) := IB.cell J3 4 (by first | decide | simp); have m5 : World.cell? w3 ⟨w.heap.size + 1, 5, none⟩ = some (.int .i64 p5) := IB.cell J3 5 (by first | decide | simp); have m6 : World.cell? w3 ⟨w.heap.size + 1, 6, none⟩ = some (.int .i64 p6) := IB.cell J3 6 (by first | decide | simp); have m7 : World.cell? w3 ⟨w.heap.size + 1, 7, none⟩ = some (.int .i64 p7) := IB.cell J3 7 (by first | decide | simp); have I3 := hid I3; have J3 := hid J3; clear hO hBx)
    | (go_at_call 37; (with_reducible refine (K1'.out w2 A1 c1 (R2.out)).mono ?_); rintro e w3 ⟨A3, c3, rfl, hO, hBx⟩; have I3 : IB w3 w.heap.size 37 a := Blk.below' (I2.out) hBx; have J3 : IB w3 (w.heap.size + 1) 33 [p0, p1, p2, p3, p4, p5, p6, p7] := Blk.below' (J2.out) hBx; have B3 := hid (B2.out.trans (hBx.mono (show w.heap.size ≤ w2.heap.size by omega))); have O3 := hid hO; have rgw3 : World.rangeAt w3 w.heap.size 0 (ints a) := IB.rangeAt I3; have m0 : World.cell? w3 ⟨w.heap.size + 1, 0, none⟩ = some (.int .i64 p0) := IB.cell J3 0 (by first | decide | simp); have m1 : World.cell? w3 ⟨w.heap.size + 1, 1, none⟩ = some (.int .i64 p1) := IB.cell J3 1 (by first | decide | simp); have m2 : World.cell? w3 ⟨w.heap.size + 1, 2, none⟩ = some (.int .i64 p2) := IB.cell J3 2 (by first | decide | simp); have m3 : World.cell? w3 ⟨w.heap.size + 1, 3, none⟩ = some (.int .i64 p3) := IB.cell J3 3 (by first | decide | simp); have m4 : World.cell? w3 ⟨w.heap.size + 1, 4, none⟩ = some (.int .i64 p4) := IB.cell J3 4 (by first | decide | simp); have m5 : World.cell? w3 ⟨w.heap.size + 1, 5, none⟩ = some (.int .i64 p5) := IB.cell J3 5 (by first | decide | simp); have m6 : World.cell? w3 ⟨w.heap.size + 1, 6, none⟩ = some (.int .i64 p6) := IB.cell J3 6 (by first | decide | simp); have m7 : World.cell? w3 ⟨w.heap.size + 1, 7, none⟩ = some (.int .i64 p7) := IB.cell J3 7 (by first | decide | simp); have I3 := hid I3; have J3 := hid J3; clear hO hBx))
  all_goals
    rename_i hHeldZ
    clear hHeldZ
    first
      | (have z2 := Z2.out
         clear z2
         have SV : SLx w (World.setCell (World.setCell (World.setCell (World.setCell (World.setCell (World.setCell (World.setCell (World.setCell w3 ⟨W.heap.size, 0, none⟩ (.int .i64 q0)) ⟨W.heap.size, 1, none⟩ (.int .i64 q1)) ⟨W.heap.size, 2, none⟩ (.int .i64 q2)) ⟨W.heap.size, 3, none⟩ (.int .i64 q3)) ⟨W.heap.size, 4, none⟩ (.int .i64 q4)) ⟨W.heap.size, 5, none⟩ (.int .i64 q5)) ⟨W.heap.size, 6, none⟩ (.int .i64 q6)) ⟨W.heap.size, 7, none⟩ (.int .i64 q7)) a [p0, p1, p2, p3, p4, p5, p6, p7] [q0, q1, q2, q3, q4, q5, q6, q7] Y A3 W.heap.size := ⟨Blk.far8 I3.out (by omega) _ _ _ _ _ _ _ _, Blk.far8 J3.out (by omega) _ _ _ _ _ _ _ _, IB.set8 Z3.out q0 q1 q2 q3 q4 q5 q6 q7, (O3.out.set8 (Blk.lt Z2.out) q0 q1 q2 q3 q4 q5 q6 q7).reads, below_set8 B3.out (by omega) q0 q1 q2 q3 q4 q5 q6 q7⟩
         obtain ⟨V, hV⟩ : ∃ V, V = (World.setCell (World.setCell (World.setCell (World.setCell (World.setCell (World.setCell (World.setCell (World.setCell w3 ⟨W.heap.size, 0, none⟩ (.int .i64 q0)) ⟨W.heap.size, 1, none⟩ (.int .i64 q1)) ⟨W.heap.size, 2, none⟩ (.int .i64 q2)) ⟨W.heap.size, 3, none⟩ (.int .i64 q3)) ⟨W.heap.size, 4, none⟩ (.int .i64 q4)) ⟨W.heap.size, 5, none⟩ (.int .i64 q5)) ⟨W.heap.size, 6, none⟩ (.int .i64 q6)) ⟨W.heap.size, 7, none⟩ (.int .i64 q7)) := ⟨_, rfl⟩
         rw [← hV] at SV ⊢
         have SV' := hid SV
         clear SV hV)
      | (have z3 := Z3.out
         clear z3
         have SV : SLx w (World.setCell (World.setCell (World.setCell (World.setCell (World.setCell (World.setCell (World.setCell (World.setCell w3 ⟨w2.heap.size, 0, none⟩ (.int .i64 q0)) ⟨w2.heap.size, 1, none⟩ (.int .i64 q1)) ⟨w2.heap.size, 2, none⟩ (.int .i64 q2)) ⟨w2.heap.size, 3, none⟩ (.int .i64 q3)) ⟨w2.heap.size, 4, none⟩ (.int .i64 q4)) ⟨w2.heap.size, 5, none⟩ (.int .i64 q5)) ⟨w2.heap.size, 6, none⟩ (.int .i64 q6)) ⟨w2.heap.size, 7, none⟩ (.int .i64 q7)) a [p0, p1, p2, p3, p4, p5, p6, p7] [q0, q1, q2, q3, q4, q5, q6, q7] Y A3 w2.heap.size := ⟨Blk.far8 I3.out (by omega) _ _ _ _ _ _ _ _, Blk.far8 J3.out (by omega) _ _ _ _ _ _ _ _, IB.set8 Z3.out q0 q1 q2 q3 q4 q5 q6 q7, (O3.out.set8 (by simp) q0 q1 q2 q3 q4 q5 q6 q7).reads, below_set8 B3.out (by omega) q0 q1 q2 q3 q4 q5 q6 q7⟩
         obtain ⟨V, hV⟩ : ∃ V, V = (World.setCell (World.setCell (World.setCell (World.setCell (World.setCell (World.setCell (World.setCell (World.setCell w3 ⟨w2.heap.size, 0, none⟩ (.int .i64 q0)) ⟨w2.heap.size, 1, none⟩ (.int .i64 q1)) ⟨w2.heap.size, 2, none⟩ (.int .i64 q2)) ⟨w2.heap.size, 3, none⟩ (.int .i64 q3)) ⟨w2.heap.size, 4, none⟩ (.int .i64 q4)) ⟨w2.heap.size, 5, none⟩ (.int .i64 q5)) ⟨w2.heap.size, 6, none⟩ (.int .i64 q6)) ⟨w2.heap.size, 7, none⟩ (.int .i64 q7)) := ⟨_, rfl⟩
         rw [← hV] at SV ⊢
         have SV' := hid SV
         clear SV hV)
      | (have SV : SLx w (w3.alloc (.cells #[Value.int .i64 q0, Value.int .i64 q1, Value.int .i64 q2, Value.int .i64 q3, Value.int .i64 q4, Value.int .i64 q5, Value.int .i64 q6, Value.int .i64 q7] 33)) a [p0, p1, p2, p3, p4, p5, p6, p7] [q0, q1, q2, q3, q4, q5, q6, q7] Y A3 w3.heap.size := ⟨Blk.alloc I3.out _, Blk.alloc J3.out _, IB.new w3 33 [q0, q1, q2, q3, q4, q5, q6, q7], (O3.out.alloc _).reads, B3.out.alloc (by have := B3.out.size; omega) _⟩
         obtain ⟨V, hV⟩ : ∃ V, V = (w3.alloc (.cells #[Value.int .i64 q0, Value.int .i64 q1, Value.int .i64 q2, Value.int .i64 q3, Value.int .i64 q4, Value.int .i64 q5, Value.int .i64 q6, Value.int .i64 q7] 33)) := ⟨_, rfl⟩
         rw [← hV] at SV ⊢
         have SV' := hid SV
         clear SV hV)
  all_goals
    try clear z0 z1 z2 z3 z4 z5 z6 z7 y0 y1 y2 y3 y4 y5 y6 y7
    clear k0 k1 k2 k3 k4 k5 k6 k7 m0 m1 m2 m3 m4 m5 m6 m7
    clear cw0 cw1 cw2 cw3 cw4 cw5 cw6 cw7
    clear rg rgw2 rgw3
    simp only [Exit.then]
    have RV := hid ((HR.out.below SV'.out.B).more SV'.out.B.size)
    go_wp2_with (first
      | (refine wpList_loadI rfl 37 (.tmp 3) rfl _ 37 a 9 _ rfl SV'.out.I Try.underlying37 rfl size9 HA.out ?_)
      | (refine wpList_loadI rfl 33 (.tmp 4) rfl _ 33 [p0, p1, p2, p3, p4, p5, p6, p7] 8 _ rfl SV'.out.J Try.underlying33 rfl size8 rfl ?_))
    refine (K2'.out _ RV.out).mono ?_
    rintro e w4 ⟨A4, c4, rfl, hO, hB⟩
    have S4 := hid (SV'.out.below hB)
    have R4 := hid hO.reads
    clear hB hO SV'
    go_wp2_with (refine wpList_storeI rfl 33 (.tmp 11) (.tmp 31) rfl _ 33 Z8 [q0, q1, q2, q3, q4, q5, q6, q7] 8 rfl rfl (IB.new w4 33 Z8) size8 rfl rfl ?_
                 obtain ⟨w5, hw5⟩ : ∃ w5, w5 = (w4.alloc (.cells #[Value.int .i64 0, Value.int .i64 0, Value.int .i64 0, Value.int .i64 0, Value.int .i64 0, Value.int .i64 0, Value.int .i64 0, Value.int .i64 0] 33)).setRow w4.heap.size (agi [q0, q1, q2, q3, q4, q5, q6, q7]) := ⟨_, rfl⟩
                 rw [← hw5]
                 have S5 := hid (show SLx w w5 a _ [q0, q1, q2, q3, q4, q5, q6, q7] Y A3 _ by rw [hw5]; exact S4.out.below (below_stored w4 (.cells (agi Z8) 33) _))
                 have R5 := hid (show Rs w5 w5.heap.size A4 Y by rw [hw5]; exact (R4.out.below (below_stored w4 (.cells (agi Z8) 33) _)).more (below_stored w4 (.cells (agi Z8) 33) (agi [q0, q1, q2, q3, q4, q5, q6, q7])).size)
                 have Q5 := hid (show IB w5 w4.heap.size 33 [q0, q1, q2, q3, q4, q5, q6, q7] by rw [hw5]; exact IB.stored w4 33 Z8 [q0, q1, q2, q3, q4, q5, q6, q7])
                 clear hw5)
    clear S4 R4
    refine (K3'.out _ w5.heap.size (by simp) (cell_new w5 _ _)).mono ?_
    rintro e w6 ⟨A6, c6, q', er', hq', rfl, hB⟩
    have L5 := (Below.refl w5.heap.size w5).alloc (Nat.le_refl _) (.cells #[.int .i64 5] 3)
    have hB6 := L5.trans (hB.mono (by simp))
    have S6 := hid (S5.out.below hB6)
    have R6 := hid ((R5.out.below hB6).more hB6.size)
    have Q6 := hid (Blk.below' Q5.out hB6)
    have HQ' := hid hq'
    clear hB hB6 L5 S5 R5 Q5 hq'
    go_wp2_with (refine wpList_storeI rfl 33 (.tmp 14) (.tmp 39) rfl _ 33 Z8 q' 8 rfl rfl (IB.new w6 33 Z8) size8 rfl HQ'.out ?_
                 obtain ⟨w7, hw7⟩ : ∃ w7, w7 = (w6.alloc (.cells #[Value.int .i64 0, Value.int .i64 0, Value.int .i64 0, Value.int .i64 0, Value.int .i64 0, Value.int .i64 0, Value.int .i64 0, Value.int .i64 0] 33)).setRow w6.heap.size (agi q') := ⟨_, rfl⟩
                 rw [← hw7]
                 have B7 := hid (show Below w6.heap.size w6 w7 by rw [hw7]; exact below_stored w6 (.cells (agi Z8) 33) _)
                 clear hw7)
    have S7 := hid (S6.out.below B7.out)
    have R7 := hid ((R6.out.below B7.out).more B7.out.size)
    have Q7 := hid (Blk.below' Q6.out B7.out)
    clear S6 R6 Q6
    refine (Same_yes A3 A4 c3 c4 Y.length _ _ Y _ S7.out.R R7.out rfl (by have := HYL.out; have := HC.out; have := HL.out; have := HN.out; omega)).mono ?_
    rintro e w8 ⟨rfl, hB⟩
    have S8 := hid (S7.out.below hB)
    have Q8 := hid (Blk.below' Q7.out hB)
    clear hB S7 Q7 R7
    go_wp2_with (first
      | (refine wpList_loadI rfl 33 (.tmp 8) rfl _ 33 [q0, q1, q2, q3, q4, q5, q6, q7] 8 _ rfl S8.out.Q Try.underlying33 rfl size8 rfl ?_)
      | (refine wpList_loadI rfl 33 (.tmp 11) rfl _ 33 [q0, q1, q2, q3, q4, q5, q6, q7] 8 _ rfl Q8.out Try.underlying33 rfl size8 rfl ?_))
    go_ret
    exact ⟨by simp, S8.out.B⟩
end Go.Proofs.Ythajpmilccpgeaa
