/- The walks that the law PulsesScores rests on, in one text. -/
import Derived.Test.YtcfmipobgljbeaaPush
import Derived.Test.YtcfmipobgljbeaaSliceW
import Derived.Test.YtcfmipobgljbeaaMakeI
import Derived.Test.YtcfmipobgljbeaaPastM
import Derived.Test.YtcfmipobgljbeaaRow
import Derived.Test.YtcfmipobgljbeaaPushW
import Derived.Deep.RegionHeld3
import Derived.Deep.MidRow
import Derived.Test.YtcfmipobgljbeaaScoR
/- append, the length as it is written. -/
namespace Go.Proofs.Ytcfmipobgljbeaa
set_option linter.unusedVariables false
set_option linter.unusedSimpArgs false
set_option maxRecDepth 100000
open Go.RowKit

theorem wpList_pushN {ops : Array Oper} {rest : List Oper} {o : Oper} {a : Act} {w : World} {Q : Exit → Act → World → Prop} (hgd : o.guard = none) (s x : Operand)
    (ho : o.op = .call { callee := .builtin .append, args := #[s, x], argTypes := #[22, 22] })
    (base : Nat) (A : Option Addr) (c n : Nat) (xs : List Int) (hs : a.eval s = .slice A n c) (hn : xs.length = n) (hown : Own w base A c xs)
    (ad : Addr) (y : Int) (hx : a.eval x = .slice (some ad) 1 1) (hc : w.cell? ad = some (.int .i64 y)) (hlen : n + 1 ≤ 17592186044416) (hbase : base ≤ w.heap.size)
    (h : ∀ A' c' w', Own w' base A' c' (xs ++ [y]) → w.grownBy w' (A.map (·.block)) → (A' = A ∨ ∃ g, A' = some ⟨g, 0, none⟩ ∧ w.heap.size ≤ g) → wpList Try.prog ops Q rest (a.put o.dst (.slice A' (n + 1) c')) w') : wpList Try.prog ops Q (o :: rest) a w := by
  subst hn
  exact wpList_push hgd s x ho base A c xs hs hown ad y hx hc hlen hbase h
theorem wpList_catN {ops : Array Oper} {rest : List Oper} {o : Oper} {a : Act} {w : World} {Q : Exit → Act → World → Prop} (hgd : o.guard = none) (s x : Operand)
    (ho : o.op = .call { callee := .builtin .append, args := #[s, x], argTypes := #[22, 22] })
    (base : Nat) (A : Option Addr) (c n : Nat) (xs : List Int) (hs : a.eval s = .slice A n c) (hn : xs.length = n) (hown : Own w base A c xs)
    (B : Nat) (A2 : Option Addr) (c2 m : Nat) (ys : List Int) (hx : a.eval x = .slice A2 m c2) (hm : ys.length = m) (hr : Rs w B A2 ys) (hlen : n + m ≤ 17592186044416) (hbase : base ≤ w.heap.size)
    (h : ∀ A' c' w', Own w' base A' c' (xs ++ ys) → w.grownBy w' (A.map (·.block)) → (A' = A ∨ ∃ g, A' = some ⟨g, 0, none⟩ ∧ w.heap.size ≤ g) → wpList Try.prog ops Q rest (a.put o.dst (.slice A' (n + m) c')) w') : wpList Try.prog ops Q (o :: rest) a w := by
  subst hn
  subst hm
  exact wpList_cat hgd s x ho base A c xs hs hown B A2 c2 ys hx hr hlen hbase h

/-- What lies below the row's base is as it was. -/
theorem below_grown {a w w' : World} {base : Nat} {A : Option Addr} {c : Nat} {xs : List Int} (hB : Below base a w) (hO : Own w base A c xs) (hG : w.grownBy w' (A.map (·.block))) (hb : base ≤ w.heap.size) : Below base a w' :=
  hB.grown hG hb (fun k hk => by
    cases A with
    | none => cases hk
    | some ad => simp at hk; subst hk; exact (hO.lt ad rfl).1)
/-- A block that is not the row's stays. -/
theorem Blk.grownA {w w' : World} {g : Nat} {t : TypeId} {cs : Array Value} {A : Option Addr} (h : Blk w g t cs) (hG : w.grownBy w' (A.map (·.block))) (hne : ∀ ad, A = some ad → ad.block ≠ g) : Blk w' g t cs :=
  Blk.grown h hG (fun e => by
    cases A with
    | none => cases e
    | some ad => simp at e; exact hne ad rfl e.symm)
/-- Where a row has moved to, it is not an elder block. -/
theorem moved_ne {w : World} {A A' : Option Addr} {g : Nat} (h : A' = A ∨ ∃ g', A' = some ⟨g', 0, none⟩ ∧ w.heap.size ≤ g') (hne : ∀ ad, A = some ad → ad.block ≠ g) (hg : g < w.heap.size) : ∀ ad, A' = some ad → ad.block ≠ g := by
  rcases h with rfl | ⟨g', rfl, hg'⟩
  · exact hne
  · intro ad had
    injection had with had
    subst had
    show g' ≠ g
    omega
end Go.Proofs.Ytcfmipobgljbeaa

/- The walks of Past, the program's and the reference's. -/
namespace Go.Proofs.Ytcfmipobgljbeaa
set_option linter.unusedVariables false
set_option linter.unusedSimpArgs false
set_option maxRecDepth 100000
open Go.RowKit

/-- What a function answers that gives new numbers and an error. -/
def NewSE (w : World) (xs : List Int) (er : Int) (e : Ending) (w' : World) : Prop := ∃ A c, e = .returned (.tuple #[.slice A xs.length c, .int .i64 er]) ∧ Own w' w.heap.size A c xs ∧ Below w.heap.size w w'
theorem NewSE.none_ {w w' : World} {er : Int} (hB : Below w.heap.size w w') : NewSE w [] er (.returned (.tuple #[.slice none 0 0, .int .i64 er])) w' := ⟨none, 0, rfl, Own.nil, hB⟩

set_option maxHeartbeats 4000000 in
theorem past_any (h : List Int) (lag : Int) (w : World) (hl : h.length = 80) : Calls Try.prog 42 #[.agg (agi h), .int .i64 lag] w (NewSE w (pastL h lag) (errOf (pastB lag))) := by
  by_cases h1 : lag < 20 ∨ 79 < lag
  · rw [show pastL h lag = [] from by unfold pastL; rw [pastB_no h1]; rfl, pastB_no h1]
    have FIN := hid (NewSE.none_ (er := 2) ((Below.refl _ w).alloc (Nat.le_refl _) (.cells (agi h) 34)))
    rcases h1 with h1 | h1
    · have d1 : decide (lag < 20) = true := by simpa using h1
      go_enter Try.func42, Try.ntmps42
      go_wp2
      go_ret2
      exact FIN.out
    · have d1 : decide (lag < 20) = false := by simp; omega
      have d2 : decide (79 < lag) = true := by simpa using h1
      go_enter Try.func42, Try.ntmps42
      go_wp2
      go_ret2
      exact FIN.out
  · have hb : pastB lag = true := pastB_yes (by omega) (by omega)
    have hlen := pastL_len (h := h) hb
    obtain ⟨L, rfl⟩ := Int.eq_ofNat_of_zero_le (show 0 ≤ lag by omega)
    have hP := hid (fun j hj => pastL_get (h := h) hb j hj)
    rw [hb]
    have hL1 : 20 ≤ L := by omega
    have hL2 : L ≤ 79 := by omega
    obtain ⟨E, hE⟩ : ∃ E, E = 80 - L := ⟨_, rfl⟩
    have hEi : (80 : Int) - (L : Nat) = (E : Nat) := by omega
    have hE2 : E + L = 80 := by omega
    have A0 := hid (IB.new w 34 h)
    have d1 : decide ((L : Int) < 20) = false := by simp; omega
    have d2 : decide (79 < (L : Int)) = false := by simp; omega
    have HL := hid hl
    have HN := hid hlen
    have HE := hid hE
    clear h1 hb hl hlen hE
    go_enter Try.func42, Try.ntmps42
    go_wp2_with (at_make; refine wpList_makeI rfl _ _ rfl .i64 .i64 40 rfl rfl w.heap.size (by omega) (by simp) ?_; intro w1 hO hG; have O1 := hid hO; have A1 := hid (Blk.grown A0.out hG (by simp)); have B1 := hid (((Below.refl w.heap.size w).alloc (Nat.le_refl _) (.cells (agi h) 34)).grown hG (by simp) (by simp)); clear hO hG)
    simp only [World.size_alloc] at O1
    go_loopw [17] (fun iv wr => ∃ (k : Nat) (ys : List Int), k ≤ 40 ∧ iv = .int .i64 k ∧ Hid (ys.length = 40 ∧ ∀ j, j < k → ys.getD j 0 = pastE h L j) ∧ Hid (Own wr w.heap.size (some ⟨w.heap.size + 1, 0, none⟩) 40 ys) ∧ Hid (IB wr w.heap.size 34 h) ∧ Hid (Below w.heap.size w wr)) (fun iv _ => 40 - (intOf iv).toNat)
    case atStart => exact ⟨0, _, by omega, rfl, hid ⟨by simp, fun j h => by omega⟩, O1, A1, B1⟩
    case round =>
      clear O1 A1 B1
      obtain ⟨k, ys, hk, rfl, HY, HO, HA, HB⟩ := hrel
      by_cases hlt : k < 40
      · have co := HO.out.cell k (by rw [HY.out.1]; exact hlt)
        have fo := HO.out.frozen k
        have NO := hid (fun v => HO.out.set_ k (by rw [HY.out.1]; exact hlt) v)
        have NA := hid (fun v => Blk.far HA.out (p := ⟨w.heap.size + 1, k, none⟩) (by show w.heap.size ≠ w.heap.size + 1; omega) v)
        have NB := hid (fun v => HB.out.setCell (p := ⟨w.heap.size + 1, k, none⟩) (by show w.heap.size ≤ w.heap.size + 1; omega) v)
        have NEXT := hid (fun (v : Int) (hv : v = pastE h L k) => show Hid ((ys.set k v).length = 40 ∧ ∀ j, j < k + 1 → (ys.set k v).getD j 0 = pastE h L j) from by
          obtain ⟨q1, q3⟩ := HY.out
          refine ⟨by simpa using q1, fun j hj => ?_⟩
          by_cases he : k = j
          · subst he
            rw [get_set_same _ _ _ (by omega), hv]
          · rw [get_set_other _ _ he]
            exact q3 j (by omega))
        by_cases hlow : k < L
        · have ci := HA.out.cell (E + k) (by rw [HL.out]; omega)
          have hEk : E + k < 80 := by omega
          have HV := hid (show h.getD (E + k) 0 = pastE h L k by rw [pastE_low hlow, ← HE.out])
          generalize h.getD (E + k) 0 = x at *
          go_wp2
          go_roundw
          case rel => exact ⟨k + 1, _, by omega, by go_num, NEXT.out _ HV.out, NO.out _, hid (NA.out _), hid (NB.out _)⟩
          case measure => simp [intOf] <;> omega
        · obtain ⟨d, hd⟩ : ∃ d, k = L + d := ⟨k - L, by omega⟩
          have hsub : (k : Int) - (L : Nat) = (d : Nat) := by omega
          have cd := HO.out.cell d (by rw [HY.out.1]; omega)
          have hd40 : d < 40 := by omega
          have HV := hid (show ys.getD d 0 = pastE h L k by rw [HY.out.2 d (by omega), pastE_high (h := h) (lag := L) (i := k) (by omega), show k - L = d from by omega])
          have HD := hid hd
          clear hd
          generalize ys.getD d 0 = x at *
          go_wp2
          go_roundw
          case rel => exact ⟨k + 1, _, by omega, by go_num, NEXT.out _ HV.out, NO.out _, hid (NA.out _), hid (NB.out _)⟩
          case measure => simp [intOf] <;> omega
      · obtain rfl : k = 40 := by omega
        have HF := hid (show ys = pastL h (L : Nat) from list_ext (by rw [HY.out.1, HN.out]) (fun j hj => by rw [HY.out.2 j (by rw [HY.out.1] at hj; exact hj), hP.out j (by rw [HY.out.1] at hj; exact hj)]; rfl))
        go_wp2
        go_ret2
        exact ⟨_, _, by rw [HN.out]; rfl, by rw [← HF.out]; exact HO.out, HB.out⟩
end Go.Proofs.Ytcfmipobgljbeaa

/- The walks of package synth's Make and Undo. -/
namespace Go.Proofs.Ytcfmipobgljbeaa
set_option linter.unusedVariables false
set_option linter.unusedSimpArgs false
set_option maxRecDepth 100000
open Go.RowKit

/-- The answer: a slice, an array in a block, a number. -/
theorem results_mid3 {fn : Func} {p q r : Tmp} {ty : TypeId} (h : fn.results = #[.tmp p, .cell q ty, .tmp r]) (tmps : Array Value) (w : World) (g : Nat) (t : TypeId) (xs : List Int) (d : TypeDesc) (n : Nat)
    (hp : tmps.getD q undef = .pointer (some ⟨g, 0, none⟩)) (hg : IB w g t xs) (hu : Try.prog.underlying ty = some d) (hd : isAggD d = true) (hi : (Try.prog.info? ty).map (·.size) = some n) (hl : xs.length = n) :
    (results fn tmps).run Try.prog w = .ok (.tuple #[tmps.getD p undef, .agg (agi xs), tmps.getD r undef]) w := by
  have hp' : tmps[q]?.getD undef = .pointer (some ⟨g, 0, none⟩) := by simpa using hp
  have hr := run_loadVar_row (P := Try.prog) w g t ty (agi xs) (0, 0) d hg hu (by cases d <;> first | rfl | (simp [isAggD] at hd)) (by rw [hi, agi_size, hl])
  simp [results, h, hp', asAddr, hr]

def NewSP (w : World) (ys q : List Int) (er : Int) (e : Ending) (w' : World) : Prop := ∃ A c, e = .returned (.tuple #[.slice A ys.length c, .agg (agi q), .int .i64 er]) ∧ Own w' w.heap.size A c ys ∧ Below w.heap.size w w'

/-- The three boxes: the predictor, the past, the answer's past. -/
structure Sx (w wr : World) (a q : List Int) : Prop where
  A : IB wr w.heap.size 23 a
  P : IB wr (w.heap.size + 1) 42 q
  R : IB wr (w.heap.size + 2) 42 Z8
  bel : Below w.heap.size w wr
theorem Sx.lt {w wr : World} {a q : List Int} (h : Sx w wr a q) : w.heap.size + 3 ≤ wr.heap.size := Blk.lt h.R
theorem Sx.below {w wr wr' : World} {a q : List Int} (h : Sx w wr a q) (hb : Below wr.heap.size wr wr') : Sx w wr' a q :=
  ⟨Blk.below' h.A hb, Blk.below' h.P hb, Blk.below' h.R hb, h.bel.trans (hb.mono (by have := h.lt; omega))⟩
theorem Sx.alloc {w wr : World} {a q : List Int} (h : Sx w wr a q) (o : Obj) : Sx w (wr.alloc o) a q :=
  ⟨Blk.alloc h.A o, Blk.alloc h.P o, Blk.alloc h.R o, h.bel.alloc (by have := h.lt; omega) o⟩
theorem Sx.setP {w wr : World} {a q : List Int} (h : Sx w wr a q) (q2 : List Int) : Sx w (wr.setRow (w.heap.size + 1) (agi q2)) a q2 :=
  ⟨Blk.rowFar h.A (by omega), IB.setRow h.P q2, Blk.rowFar h.R (by omega), below_setRow h.bel (by omega) _⟩
theorem Sx.drew {w wr : World} {a q : List Int} (h : Sx w wr a q) : Sx w wr.drew a q := ⟨h.A, h.P, h.R, h.bel.drew⟩
theorem Sx.start (w : World) (a q : List Int) : Sx w (((w.alloc (.cells (agi a) 23)).alloc (.cells (agi q) 42)).alloc (.cells (agi Z8) 42)) a q := by
  have h1 := IB.new w 23 a
  have h2 := IB.new (w.alloc (.cells (agi a) 23)) 42 q
  have h3 := IB.new ((w.alloc (.cells (agi a) 23)).alloc (.cells (agi q) 42)) 42 Z8
  simp only [World.size_alloc] at h2 h3
  exact ⟨Blk.alloc (Blk.alloc h1 _) _, Blk.alloc h2 _, h3, ((((Below.refl _ _).alloc (Nat.le_refl _) _).alloc (by simp) _).alloc (by simp; omega) _)⟩
theorem Sx.grown {w wr wr' : World} {a q xs : List Int} {A : Option Addr} {c : Nat} (h : Sx w wr a q) (hO : Own wr (w.heap.size + 3) A c xs) (hG : wr.grownBy wr' (A.map (·.block))) : Sx w wr' a q :=
  ⟨Blk.grownA h.A hG (hO.ne_ (by omega)), Blk.grownA h.P hG (hO.ne_ (by omega)), Blk.grownA h.R hG (hO.ne_ (by omega)),
    below_grown h.bel (hO.more (by omega)) hG (by have := h.lt; omega)⟩

theorem list8 {q : List Int} (h : q.length = 8) : ∃ q0 q1 q2 q3 q4 q5 q6 q7, q = [q0, q1, q2, q3, q4, q5, q6, q7] := by
  match q, h with
  | [a, b, c, d, e, f, g, i], _ => exact ⟨a, b, c, d, e, f, g, i, rfl⟩
theorem IB.set8 {w : World} {g : Nat} {t : TypeId} (h : IB w g t Z8) (q0 q1 q2 q3 q4 q5 q6 q7 : Int) :
    IB ((((((((w.setCell ⟨g, 0, none⟩ (.int .i64 q0)).setCell ⟨g, 1, none⟩ (.int .i64 q1)).setCell ⟨g, 2, none⟩ (.int .i64 q2)).setCell ⟨g, 3, none⟩ (.int .i64 q3)).setCell ⟨g, 4, none⟩ (.int .i64 q4)).setCell ⟨g, 5, none⟩ (.int .i64 q5)).setCell ⟨g, 6, none⟩ (.int .i64 q6)).setCell ⟨g, 7, none⟩ (.int .i64 q7)) g t [q0, q1, q2, q3, q4, q5, q6, q7] :=
  (((((((h.set_ 0 q0).set_ 1 q1).set_ 2 q2).set_ 3 q3).set_ 4 q4).set_ 5 q5).set_ 6 q6).set_ 7 q7
theorem below_set8 {w0 w : World} {B g : Nat} (h : Below B w0 w) (hg : B ≤ g) (q0 q1 q2 q3 q4 q5 q6 q7 : Int) :
    Below B w0 ((((((((w.setCell ⟨g, 0, none⟩ (.int .i64 q0)).setCell ⟨g, 1, none⟩ (.int .i64 q1)).setCell ⟨g, 2, none⟩ (.int .i64 q2)).setCell ⟨g, 3, none⟩ (.int .i64 q3)).setCell ⟨g, 4, none⟩ (.int .i64 q4)).setCell ⟨g, 5, none⟩ (.int .i64 q5)).setCell ⟨g, 6, none⟩ (.int .i64 q6)).setCell ⟨g, 7, none⟩ (.int .i64 q7)) :=
  (((((((h.setCell (p := ⟨g, 0, none⟩) hg _).setCell (p := ⟨g, 1, none⟩) hg _).setCell (p := ⟨g, 2, none⟩) hg _).setCell (p := ⟨g, 3, none⟩) hg _).setCell (p := ⟨g, 4, none⟩) hg _).setCell (p := ⟨g, 5, none⟩) hg _).setCell (p := ⟨g, 6, none⟩) hg _).setCell (p := ⟨g, 7, none⟩) hg _
theorem Own.set8 {w : World} {base c g : Nat} {A : Option Addr} {xs : List Int} (h : Own w base A c xs) (hg : g < base) (q0 q1 q2 q3 q4 q5 q6 q7 : Int) :
    Own ((((((((w.setCell ⟨g, 0, none⟩ (.int .i64 q0)).setCell ⟨g, 1, none⟩ (.int .i64 q1)).setCell ⟨g, 2, none⟩ (.int .i64 q2)).setCell ⟨g, 3, none⟩ (.int .i64 q3)).setCell ⟨g, 4, none⟩ (.int .i64 q4)).setCell ⟨g, 5, none⟩ (.int .i64 q5)).setCell ⟨g, 6, none⟩ (.int .i64 q6)).setCell ⟨g, 7, none⟩ (.int .i64 q7)) base A c xs :=
  (((((((h.setC hg 0 _).setC hg 1 _).setC hg 2 _).setC hg 3 _).setC hg 4 _).setC hg 5 _).setC hg 6 _).setC hg 7 _

set_option maxHeartbeats 4000000 in
theorem synthMake_any (a p l : List Int) (A0 : Option Addr) (c0 n : Nat) (w : World) (ha : a.length = 9) (hp : p.length = 8) (hr : Rs w w.heap.size A0 l) (hn : l.length = n) (hl : n ≤ 17592186044000) :
    Calls Try.prog 91 #[.agg (agi a), .agg (agi p), .slice A0 n c0] w (NewSP w (if goodF a p l then makeN a p l n else []) (if goodF a p l then newL p (makeN a p l n) else Z8) (errOf (goodF a p l))) := by
  have hR := results_mid3 (fn := Try.f91) (p := 6) (q := 7) (r := 8) (ty := 42) rfl
  have S0 := Sx.start w a p
  have R0 := hr.below S0.bel
  rw [z8_eq] at S0
  rw [z8_eq] at R0
  have S0 := hid S0
  have R0 := hid R0
  have HA := hid ha
  have HP := hid hp
  have HN := hid hn
  have HR := hid hr
  have KG := hid (fun (W : World) (hW : Rs W W.heap.size A0 l) => synthgood_any a p l A0 c0 n 0 W ha hp hW hn (by omega))
  clear ha hp hn hr
  obtain ⟨Y, hY⟩ : ∃ Y, Y = (if goodF a p l then makeN a p l n else []) := ⟨_, rfl⟩
  obtain ⟨Z, hZ⟩ : ∃ Z, Z = (if goodF a p l then newL p (makeN a p l n) else Z8) := ⟨_, rfl⟩
  rw [← hY, ← hZ]
  have HYY := hid hY
  have HZZ := hid hZ
  clear hY hZ
  go_enter Try.func91, Try.ntmps91
  go_wp2_with (first
    | (refine wpList_loadI rfl 23 (.tmp 3) rfl _ 23 a 9 _ rfl S0.out.A Try.underlying23 rfl size9 HA.out ?_)
    | (refine wpList_loadI rfl 42 (.tmp 4) rfl _ 42 p 8 _ rfl S0.out.P Try.underlying42 rfl size8 HP.out ?_))
  refine (KG.out _ (R0.out.more (by simp; omega))).mono ?_
  rintro e w1 ⟨rfl, hB⟩
  have S1 := hid (S0.out.below hB)
  clear hB S0 R0 KG
  by_cases hg : goodF a p l = true
  · have HG := hid hg
    rw [hg]
    have y1 := HYY.out
    have z1 := HZZ.out
    rw [if_pos hg] at y1 z1
    have HY1 := hid y1
    have HZ1 := hid z1
    clear y1 z1
    obtain ⟨ga, gz, gp, gl⟩ : okP a = true ∧ a.getD 0 0 = 4096 ∧ all16 p = true ∧ all16 l = true := by simpa [goodF] using hg
    have GA := hid ga
    have GP := hid gp
    have GL := hid gl
    clear hg ga gz gp gl
    go_wp2
    go_loopw [9, 21] (fun ov iv wr => ∃ (k : Nat) (A : Option Addr) (c : Nat) (q ys : List Int), k ≤ n ∧ iv = .int .i64 k ∧ ov = .slice A k c ∧ Hid (ys = makeN a p l k) ∧ Hid (q = newL p (makeN a p l k)) ∧ Hid (Own wr (w.heap.size + 3) A c ys) ∧ Hid (Sx w wr a q)) (fun _ iv _ => n - (intOf iv).toNat)
    case atStart => exact ⟨0, none, 0, p, [], by omega, rfl, rfl, hid rfl, hid rfl, hid Own.nil, S1⟩
    case round =>
      clear S1
      obtain ⟨k, A, c, q, ys, hk, rfl, rfl, HY, HQ, HO, HS⟩ := hrel
      have HQL := hid (show q.length = 8 by rw [HQ.out]; exact newL_len _ _ HP.out)
      by_cases hlt : k < n
      · have q16 := hid (show all16 q = true by rw [HQ.out]; exact newL_all _ _ GP.out (makeN_all _ _ _ _))
        obtain ⟨ad, rfl, hadb, c1⟩ := (HR.out.below HS.out.bel).at_ (k := k) (by rw [HN.out]; exact hlt)
        have xb := all16_at GL.out k
        have YN := hid (show ys ++ [s16 (l.getD k 0 - guessL a q)] = makeN a p l (k + 1) by rw [makeN, ← HY.out, HQ.out, HY.out])
        obtain ⟨x, hx⟩ : ∃ x, x = l.getD k 0 := ⟨_, rfl⟩
        rw [← hx] at c1 xb YN
        have gb := guess_bound GA.out q16.out
        have K1 := hid (fun W => synthguess_any a q W HA.out HQL.out GA.out q16.out)
        generalize guessL a q = g at *
        obtain ⟨x1, x2⟩ := xb
        obtain ⟨g1, g2⟩ := gb
        have hw1 : IntKind.i64.wrap (x - g) = x - g := by rw [IntKind.wrap_i64]; omega
        obtain ⟨y, hy⟩ : ∃ y, y = s16 (x - g) := ⟨_, rfl⟩
        rw [← hy] at YN
        have KS := hid (fun W => synthsat_any (x - g) W)
        rw [← hy] at KS
        have QN := hid (show pushL q y = newL p (makeN a p l (k + 1)) by rw [← YN.out, HY.out, newL_snoc, HQ.out])
        have LP := hid (pushL_len HQL.out y)
        have HX := hid hx
        have YL := hid (show ys.length = k by rw [HY.out, makeN_len])
        clear hx hy
        go_wp2_with (first
          | (refine wpList_loadI rfl 23 (.tmp 3) rfl _ 23 a 9 _ rfl HS.out.A Try.underlying23 rfl size9 HA.out ?_)
          | (refine wpList_loadI rfl 42 (.tmp 4) rfl _ 42 q 8 _ rfl HS.out.P Try.underlying42 rfl size8 HQL.out ?_))
        refine (K1.out _).mono ?_
        rintro e w2 ⟨rfl, hB⟩
        have S2 := hid (HS.out.below hB)
        have O2 := hid (HO.out.below hB)
        clear hB HS HO c1
        go_wp2_with (first
          | (go_at_call 113; refine (KS.out _).mono ?_; rintro e w' ⟨rfl, rfl⟩)
          | (refine wpList_loadI rfl 42 (.tmp 4) rfl _ 42 q 8 _ rfl S2.out.P Try.underlying42 rfl size8 HQL.out ?_))
        refine (synthpush_any q y _ HQL.out).mono ?_
        rintro e w3 ⟨rfl, hB⟩
        have S3 := hid (S2.out.below hB)
        have O3 := hid (O2.out.below hB)
        clear hB S2 O2
        go_wp2_with (first
          | (refine wpList_storeI rfl 42 (.tmp 4) (.tmp 33) rfl _ 42 q (pushL q y) 8 rfl rfl S3.out.P size8 HQL.out LP.out ?_
             obtain ⟨w4, hw4⟩ : ∃ w4, w4 = w3.setRow (w.heap.size + 1) (agi (pushL q y)) := ⟨_, rfl⟩
             rw [← hw4]
             have S4 := hid (show Sx w w4 a (pushL q y) by rw [hw4]; exact S3.out.setP _)
             have O4 := hid (show Own w4 (w.heap.size + 3) A c ys by rw [hw4]; exact O3.out.setRow (by omega) _)
             clear hw4)
          | (at_builtin; refine wpList_pushN rfl (.tmp 34) (.tmp 36) rfl (w.heap.size + 3) A c k ys rfl YL.out (O4.out.alloc _) ⟨w4.heap.size, 0, none⟩ y rfl (cell_new w4 _ _) (by omega) (Nat.le_trans S4.out.lt (by simp)) ?_; intro A2 c2 w5 hO hG hA; have O5 := hid hO; have G5 := hid hG; clear hO hG hA))
        have S5 := hid ((S4.out.alloc _).grown (O4.out.alloc _) G5.out)
        go_wp2
        go_roundw
        case rel => exact ⟨k + 1, A2, c2, _, _, by omega, by go_num, rfl, YN, QN, O5, S5⟩
        case measure => simp [intOf] <;> omega
      · obtain rfl : k = n := by omega
        obtain ⟨q0, q1, q2, q3, q4, q5, q6, q7, rfl⟩ := list8 HQL.out
        have c0 : wr.cell? ⟨w.heap.size + 1, 0, none⟩ = some (.int .i64 q0) := IB.cell HS.out.P 0 (by simp)
        have c1 : wr.cell? ⟨w.heap.size + 1, 1, none⟩ = some (.int .i64 q1) := IB.cell HS.out.P 1 (by simp)
        have c2 : wr.cell? ⟨w.heap.size + 1, 2, none⟩ = some (.int .i64 q2) := IB.cell HS.out.P 2 (by simp)
        have c3 : wr.cell? ⟨w.heap.size + 1, 3, none⟩ = some (.int .i64 q3) := IB.cell HS.out.P 3 (by simp)
        have c4 : wr.cell? ⟨w.heap.size + 1, 4, none⟩ = some (.int .i64 q4) := IB.cell HS.out.P 4 (by simp)
        have c5 : wr.cell? ⟨w.heap.size + 1, 5, none⟩ = some (.int .i64 q5) := IB.cell HS.out.P 5 (by simp)
        have c6 : wr.cell? ⟨w.heap.size + 1, 6, none⟩ = some (.int .i64 q6) := IB.cell HS.out.P 6 (by simp)
        have c7 : wr.cell? ⟨w.heap.size + 1, 7, none⟩ = some (.int .i64 q7) := IB.cell HS.out.P 7 (by simp)
        have r0 : wr.cell? ⟨w.heap.size + 1 + 1, 0, none⟩ = some (.int .i64 0) := IB.cell HS.out.R 0 (by decide)
        have r1 : wr.cell? ⟨w.heap.size + 1 + 1, 1, none⟩ = some (.int .i64 0) := IB.cell HS.out.R 1 (by decide)
        have r2 : wr.cell? ⟨w.heap.size + 1 + 1, 2, none⟩ = some (.int .i64 0) := IB.cell HS.out.R 2 (by decide)
        have r3 : wr.cell? ⟨w.heap.size + 1 + 1, 3, none⟩ = some (.int .i64 0) := IB.cell HS.out.R 3 (by decide)
        have r4 : wr.cell? ⟨w.heap.size + 1 + 1, 4, none⟩ = some (.int .i64 0) := IB.cell HS.out.R 4 (by decide)
        have r5 : wr.cell? ⟨w.heap.size + 1 + 1, 5, none⟩ = some (.int .i64 0) := IB.cell HS.out.R 5 (by decide)
        have r6 : wr.cell? ⟨w.heap.size + 1 + 1, 6, none⟩ = some (.int .i64 0) := IB.cell HS.out.R 6 (by decide)
        have r7 : wr.cell? ⟨w.heap.size + 1 + 1, 7, none⟩ = some (.int .i64 0) := IB.cell HS.out.R 7 (by decide)
        have f0 : wr.frozen? ⟨w.heap.size + 1 + 1, 0, none⟩ = false := Blk.frozen HS.out.R 0
        have f1 : wr.frozen? ⟨w.heap.size + 1 + 1, 1, none⟩ = false := Blk.frozen HS.out.R 1
        have f2 : wr.frozen? ⟨w.heap.size + 1 + 1, 2, none⟩ = false := Blk.frozen HS.out.R 2
        have f3 : wr.frozen? ⟨w.heap.size + 1 + 1, 3, none⟩ = false := Blk.frozen HS.out.R 3
        have f4 : wr.frozen? ⟨w.heap.size + 1 + 1, 4, none⟩ = false := Blk.frozen HS.out.R 4
        have f5 : wr.frozen? ⟨w.heap.size + 1 + 1, 5, none⟩ = false := Blk.frozen HS.out.R 5
        have f6 : wr.frozen? ⟨w.heap.size + 1 + 1, 6, none⟩ = false := Blk.frozen HS.out.R 6
        have f7 : wr.frozen? ⟨w.heap.size + 1 + 1, 7, none⟩ = false := Blk.frozen HS.out.R 7
        have IR := hid (Blk.drew (IB.set8 HS.out.R q0 q1 q2 q3 q4 q5 q6 q7))
        have OR := hid ((HO.out.set8 (g := w.heap.size + 2) (by omega) q0 q1 q2 q3 q4 q5 q6 q7).drew.more (base' := w.heap.size) (by omega))
        have BR := hid (below_set8 HS.out.bel (g := w.heap.size + 2) (by omega) q0 q1 q2 q3 q4 q5 q6 q7).drew
        have FY := hid (show Y = ys by rw [HY1.out, HY.out])
        have FZ := hid (show Z = [q0, q1, q2, q3, q4, q5, q6, q7] by rw [HZ1.out, HQ.out])
        have YL := hid (show ys.length = k by rw [HY.out, makeN_len])
        go_wp2
        go_region
        clear c0 c1 c2 c3 c4 c5 c6 c7 r0 r1 r2 r3 r4 r5 r6 r7 f0 f1 f2 f3 f4 f5 f6 f7
        simp only [Exit.then]
        go_wp2
        refine bodyPost_ret (v := _) (hR _ _ _ 42 [q0, q1, q2, q3, q4, q5, q6, q7] _ 8 rfl IR.out Try.underlying42 rfl size8 rfl) rfl ?_
        exact ⟨A, c, by rw [FY.out, FZ.out, YL.out, HG.out]; rfl, by rw [FY.out]; exact OR.out, BR.out⟩
  · have hb : goodF a p l = false := by simpa using hg
    rw [hb]
    have hRow := hid (S1.out.R)
    go_wp2_with (refine wpList_storeI rfl 42 (.tmp 7) (.tmp 18) rfl _ 42 Z8 Z8 8 rfl rfl S1.out.R size8 rfl rfl ?_)
    refine bodyPost_ret (v := _) (hR _ _ _ 42 Z8 _ 8 rfl (IB.setRow S1.out.R Z8) Try.underlying42 rfl size8 rfl) rfl ?_
    have y1 := HYY.out
    have z1 := HZZ.out
    rw [if_neg hg] at y1 z1
    subst y1
    subst z1
    exact ⟨none, 0, by rw [hb]; rfl, Own.nil, below_setRow S1.out.bel (by omega) _⟩
end Go.Proofs.Ytcfmipobgljbeaa

/- Blocks of numbers as the drawing regions speak of them: ranges. -/
namespace Go.Proofs.Ytcfmipobgljbeaa
set_option linter.unusedVariables false
set_option linter.unusedSimpArgs false
set_option maxRecDepth 100000
open Go.RowKit

section
variable {w w' : World} {g : Nat} {t : TypeId} {xs : List Int} {cs : Array Value}
theorem Blk.rangeAt (h : Blk w g t cs) : w.rangeAt g 0 cs.toList := fun j v hv => by
  rw [Nat.zero_add, Blk.cell h j, ← hv]
  simp
theorem IB.rangeAt (h : IB w g t xs) : w.rangeAt g 0 (ints xs) := by
  have := Blk.rangeAt h
  simpa [agi] using this
theorem Blk.there (h : Blk w g t cs) : w.there g 0 cs.size := fun j hj => by
  rw [Nat.zero_add]
  refine ⟨?_, Blk.frozen h j⟩
  rw [Blk.cell h j]
  simp [hj]
end
theorem rangeAt_alloc_drew {w : World} {b : Nat} {cs : List Value} (h : w.rangeAt b 0 cs) (o : Obj) : (w.alloc o).drew.rangeAt b 0 cs := (World.rangeAt_drew _ _ _ _).2 (World.rangeAt_alloc h o)
theorem rangeAt_far {w : World} {b : Nat} {cs : List Value} (h : w.rangeAt b 0 cs) {p : Addr} (hp : b ≠ p.block) (v : Value) : (w.setCell p v).rangeAt b 0 cs := fun j u hu => by
  rw [World.cell?_setCell_far _ _ _ _ (fun e => hp e.symm)]
  exact h j u hu
theorem rangeAt_far8 {w : World} {b g : Nat} {cs : List Value} (h : w.rangeAt b 0 cs) (hp : b ≠ g) (v0 v1 v2 v3 v4 v5 v6 v7 : Value) : World.rangeAt ((((((((w.setCell ⟨g, 0, none⟩ v0).setCell ⟨g, 1, none⟩ v1).setCell ⟨g, 2, none⟩ v2).setCell ⟨g, 3, none⟩ v3).setCell ⟨g, 4, none⟩ v4).setCell ⟨g, 5, none⟩ v5).setCell ⟨g, 6, none⟩ v6).setCell ⟨g, 7, none⟩ v7) b 0 cs :=
  rangeAt_far (rangeAt_far (rangeAt_far (rangeAt_far (rangeAt_far (rangeAt_far (rangeAt_far (rangeAt_far h hp v0) hp v1) hp v2) hp v3) hp v4) hp v5) hp v6) hp v7
theorem Blk.far8 {w : World} {k g : Nat} {t : TypeId} {cs : Array Value} (h : Blk w k t cs) (hp : k ≠ g) (v0 v1 v2 v3 v4 v5 v6 v7 : Value) : Blk ((((((((w.setCell ⟨g, 0, none⟩ v0).setCell ⟨g, 1, none⟩ v1).setCell ⟨g, 2, none⟩ v2).setCell ⟨g, 3, none⟩ v3).setCell ⟨g, 4, none⟩ v4).setCell ⟨g, 5, none⟩ v5).setCell ⟨g, 6, none⟩ v6).setCell ⟨g, 7, none⟩ v7) k t cs :=
  (((((((h.far (p := ⟨g, 0, none⟩) hp v0).far (p := ⟨g, 1, none⟩) hp v1).far (p := ⟨g, 2, none⟩) hp v2).far (p := ⟨g, 3, none⟩) hp v3).far (p := ⟨g, 4, none⟩) hp v4).far (p := ⟨g, 5, none⟩) hp v5).far (p := ⟨g, 6, none⟩) hp v6).far (p := ⟨g, 7, none⟩) hp v7
end Go.Proofs.Ytcfmipobgljbeaa

/- The walk of the law PulsesScores. -/
namespace Go.Proofs.Ytcfmipobgljbeaa
set_option linter.unusedVariables false
set_option linter.unusedSimpArgs false
set_option maxRecDepth 100000
open Go.RowKit

def flatL (n : Int) : List Int := List.replicate 40 n
theorem flatL_len (n : Int) : (flatL n).length = 40 := by simp [flatL]
theorem flatL_64 {n : Int} (h1 : -9223372036854775808 ≤ n) (h2 : n ≤ 9223372036854775807) : W64 (flatL n) := fun x hx => by
  have := (List.mem_replicate.1 hx).2
  omega
def flatN (n : Int) (k : Nat) : List Int := (List.range 40).map (fun j => if j < k then n else 0)
theorem flatN_len (n : Int) (k : Nat) : (flatN n k).length = 40 := by simp [flatN]
theorem flatN_zero (n : Int) : flatN n 0 = List.replicate 40 0 := by
  refine list_ext (by rw [flatN_len]; simp) fun j hj => ?_
  rw [flatN_len] at hj
  unfold flatN
  rw [range_get _ hj, if_neg (by omega), repl_get]
theorem flatN_end (n : Int) : flatN n 40 = flatL n := by
  refine list_ext (by rw [flatN_len, flatL_len]) fun j hj => ?_
  rw [flatN_len] at hj
  unfold flatN flatL
  rw [range_get _ hj, if_pos hj, List.getD_eq_getElem?_getD, List.getElem?_replicate, if_pos hj]
  rfl
theorem flatN_set (n : Int) {k : Nat} (hk : k < 40) : (flatN n k).set k n = flatN n (k + 1) := by
  refine list_ext (by rw [List.length_set, flatN_len, flatN_len]) fun j hj => ?_
  rw [List.length_set, flatN_len] at hj
  by_cases e : k = j
  · subst e
    rw [get_set_same _ _ _ (by rw [flatN_len]; exact hk)]
    unfold flatN
    rw [range_get _ hj, if_pos (by omega)]
  · rw [get_set_other _ _ e]
    unfold flatN
    rw [range_get _ hj, range_get _ hj]
    by_cases h2 : j < k
    · rw [if_pos h2, if_pos (by omega)]
    · rw [if_neg h2, if_neg (by omega)]

set_option maxHeartbeats 1000000 in
theorem flat_any (n : Int) (w : World) : Calls Try.prog 14 #[.int .i64 n] w (fun e w' => ∃ A c, e = .returned (.slice A 40 c) ∧ Own w' w.heap.size A c (flatL n) ∧ Below w.heap.size w w') := by
  go_enter Try.func14, Try.ntmps14
  go_wp2_with (at_make; refine wpList_makeI rfl _ _ rfl .i64 .i64 40 rfl rfl w.heap.size (by omega) (Nat.le_refl _) ?_; intro w1 hO hG; have O1 := hid (show Own w1 w.heap.size (some ⟨w.heap.size, 0, none⟩) 40 (flatN n 0) by rw [flatN_zero]; exact hO); have B1 := hid ((Below.refl w.heap.size w).grown hG (Nat.le_refl _) (by simp)); clear hO hG)
  go_loopw [4] (fun iv wr => ∃ k : Nat, k ≤ 40 ∧ iv = .int .i64 k ∧ Hid (Own wr w.heap.size (some ⟨w.heap.size, 0, none⟩) 40 (flatN n k)) ∧ Hid (Below w.heap.size w wr)) (fun iv _ => 40 - (intOf iv).toNat)
  case atStart => exact ⟨0, by omega, rfl, O1, B1⟩
  case round =>
    clear O1 B1
    obtain ⟨k, hk, rfl, HO, HB⟩ := hrel
    by_cases hlt : k < 40
    · have co := HO.out.cell k (by rw [flatN_len]; exact hlt)
      have fo := HO.out.frozen k
      have NO := hid (show Own (wr.setCell ⟨w.heap.size, k, none⟩ (.int .i64 n)) w.heap.size (some ⟨w.heap.size, 0, none⟩) 40 (flatN n (k + 1)) from by rw [← flatN_set n hlt]; exact HO.out.set_ k (by rw [flatN_len]; exact hlt) n)
      have NB := hid (HB.out.setCell (p := ⟨w.heap.size, k, none⟩) (Nat.le_refl _) (.int .i64 n))
      go_wp2
      go_roundw
      case rel => exact ⟨k + 1, by omega, by go_num, NO, NB⟩
      case measure => simp [intOf] <;> omega
    · obtain rfl : k = 40 := by omega
      have NO := hid (show Own wr w.heap.size (some ⟨w.heap.size, 0, none⟩) 40 (flatL n) by rw [← flatN_end]; exact HO.out)
      go_wp2
      go_ret
      exact ⟨_, _, rfl, NO.out, HB.out⟩

theorem sc_flat : scCv (flatL (-1)) (flatL 0) [0, 0, 0, 0] = 4 := by decide +kernel

/-- Behind a call: the box, the lists. -/
structure SL (w V : World) (ix r t : List Int) (A A' : Option Addr) : Prop where
  J : IB V w.heap.size 29 ix
  R : Rs V V.heap.size A r
  T : Rs V V.heap.size A' t
  B : Below w.heap.size w V
theorem SL.below {w V V' : World} {ix r t : List Int} {A A' : Option Addr} (s : SL w V ix r t A A') (hb : Below V.heap.size V V') : SL w V' ix r t A A' :=
  ⟨Blk.below' s.J hb, (s.R.below hb).more hb.size, (s.T.below hb).more hb.size, s.B.trans (hb.mono s.B.size)⟩
theorem SL.drew {w V : World} {ix r t : List Int} {A A' : Option Addr} (s : SL w V ix r t A A') : SL w V.drew ix r t A A' := s.below ((Below.refl _ _).drew)

set_option maxHeartbeats 4000000 in
theorem walkPulsesScores (w : World) (A : Option Addr) (c : Nat) (xs : List Int) (hr : Rs w w.heap.size A xs) (hw : W64 xs) (hl : xs.length ≤ c) (hc : c * 8 ≤ 140737488351232) (A' : Option Addr) (c' : Nat) (ys : List Int) (hr' : Rs w w.heap.size A' ys) (hw' : W64 ys) (hl' : ys.length ≤ c') (hc' : c' * 8 ≤ 140737488351232) (ix : List Int) (hx : ix.length = 4) (_ : W64 ix) :
    Calls Try.prog 4 #[.slice A xs.length c, .slice A' ys.length c', .agg (agi ix)] w fun e w' => e = .returned (.bool true) ∧ Below w.heap.size w w' := by
  obtain ⟨x0, x1, x2, x3, rfl⟩ := list4 hx
  obtain ⟨n, hn⟩ : ∃ n, n = xs.length := ⟨_, rfl⟩
  obtain ⟨m, hm⟩ : ∃ m, m = ys.length := ⟨_, rfl⟩
  have hB0 := (Below.refl w.heap.size w).alloc (Nat.le_refl _) (.cells (agi [x0, x1, x2, x3]) 29)
  have S0 := hid (show SL w (w.alloc (.cells (agi [x0, x1, x2, x3]) 29)) [x0, x1, x2, x3] xs ys A A' from ⟨IB.new w _ _, (hr.below hB0).more hB0.size, (hr'.below hB0).more hB0.size, hB0⟩)
  have KI := hid (fun W (h : Rs W W.heap.size A xs) => show Calls Try.prog 10 #[.slice A n c] W (fun e w' => ∃ A1 c1, e = .returned (.slice A1 n c1) ∧ Own w' W.heap.size A1 c1 xs ∧ Below W.heap.size W w') from by
    have := ints_any A c xs W h (by omega)
    rw [hn]
    exact this)
  have KJ := hid (fun W (h : Rs W W.heap.size A' ys) => show Calls Try.prog 10 #[.slice A' m c'] W (fun e w' => ∃ A1 c1, e = .returned (.slice A1 m c1) ∧ Own w' W.heap.size A1 c1 ys ∧ Below W.heap.size W w') from by
    have := ints_any A' c' ys W h (by omega)
    rw [hm]
    exact this)
  have K1 := fun W A1 c1 A2 c2 (h1 : Rs W W.heap.size A1 xs) (h2 : Rs W W.heap.size A2 ys) => show Calls Try.prog 12 #[.slice A1 n c1, .slice A2 m c2, .agg #[.int .i64 x0, .int .i64 x1, .int .i64 x2, .int .i64 x3]] W (ScAns xs ys [x0, x1, x2, x3] W) from pulsesScore_any A1 A2 c1 c2 n m xs ys [x0, x1, x2, x3] W h1 h2 hn.symm hm.symm hw hw' rfl
  have K2 := fun W (h1 : Rs W W.heap.size A xs) (h2 : Rs W W.heap.size A' ys) => show Calls Try.prog 13 #[.slice A n c, .slice A' m c', .agg (agi [x0, x1, x2, x3])] W (ScAns xs ys [x0, x1, x2, x3] W) from refScore_any A A' c c' n m xs ys [x0, x1, x2, x3] W h1 h2 hn.symm hm.symm hw hw' rfl
  have K3 := fun W A1 c1 A2 c2 (h1 : Rs W W.heap.size A1 (flatL (-1))) (h2 : Rs W W.heap.size A2 (flatL 0)) => show Calls Try.prog 12 #[.slice A1 40 c1, .slice A2 40 c2, .agg #[.int .i64 0, .int .i64 0, .int .i64 0, .int .i64 0]] W (ScAns (flatL (-1)) (flatL 0) [0, 0, 0, 0] W) from pulsesScore_any A1 A2 c1 c2 40 40 (flatL (-1)) (flatL 0) [0, 0, 0, 0] W h1 h2 (flatL_len _) (flatL_len _) (flatL_64 (by omega) (by omega)) (flatL_64 (by omega) (by omega)) rfl
  unfold ScAns at K1 K2 K3
  rw [sc_flat] at K3
  rw [← hn, ← hm]
  generalize scCv xs ys [x0, x1, x2, x3] = a at *
  generalize scEv xs ys [x0, x1, x2, x3] = b at *
  generalize scErr xs ys [x0, x1, x2, x3] = er at *
  generalize scEv (flatL (-1)) (flatL 0) [0, 0, 0, 0] = b3 at *
  generalize scErr (flatL (-1)) (flatL 0) [0, 0, 0, 0] = er3 at *
  have K1 := hid K1
  have K2 := hid K2
  have K3 := hid K3
  have KL := hid (fun n W => flat_any n W)
  rename_i K1r K2r K3r
  clear K1r K2r K3r hB0 hr hr' hw hw' hl hl' hc hc' hn hm hx
  obtain ⟨W, hW⟩ : ∃ W, W = w.alloc (.cells (agi [x0, x1, x2, x3]) 29) := ⟨_, rfl⟩
  rw [← hW] at S0
  have HW := hid hW
  clear hW
  have J0 := S0.out.J
  have k0 : World.cell? W ⟨w.heap.size, 0, none⟩ = some (.int .i64 x0) := IB.cell J0 0 (by first | decide | simp); have k1 : World.cell? W ⟨w.heap.size, 1, none⟩ = some (.int .i64 x1) := IB.cell J0 1 (by first | decide | simp); have k2 : World.cell? W ⟨w.heap.size, 2, none⟩ = some (.int .i64 x2) := IB.cell J0 2 (by first | decide | simp); have k3 : World.cell? W ⟨w.heap.size, 3, none⟩ = some (.int .i64 x3) := IB.cell J0 3 (by first | decide | simp)
  clear J0
  have R0 := hid S0.out.drew.R
  go_enter Try.func4, Try.ntmps4
  go_wp2_with fail
  first | rw [← HW.out] | (rw [show agi [x0, x1, x2, x3] = #[.int .i64 x0, .int .i64 x1, .int .i64 x2, .int .i64 x3] from rfl] at HW; rw [← HW.out])
  go_region_held3 (fun w' => w'.cell? ⟨w.heap.size, 0, none⟩ = some (.int .i64 x0) ∧ w'.cell? ⟨w.heap.size, 1, none⟩ = some (.int .i64 x1) ∧ w'.cell? ⟨w.heap.size, 2, none⟩ = some (.int .i64 x2) ∧ w'.cell? ⟨w.heap.size, 3, none⟩ = some (.int .i64 x3)) (go_keep) (first
    | (go_at_call 10; (with_reducible refine (KI.out W.drew R0.out).mono ?_); rintro e w2 ⟨A2, c2, rfl, hO, hBx⟩; have S2 := hid (S0.out.drew.below hBx); have O2 := hid hO; have J2 := S2.out.J; have l0 : World.cell? w2 ⟨w.heap.size, 0, none⟩ = some (.int .i64 x0) := IB.cell J2 0 (by first | decide | simp); have l1 : World.cell? w2 ⟨w.heap.size, 1, none⟩ = some (.int .i64 x1) := IB.cell J2 1 (by first | decide | simp); have l2 : World.cell? w2 ⟨w.heap.size, 2, none⟩ = some (.int .i64 x2) := IB.cell J2 2 (by first | decide | simp); have l3 : World.cell? w2 ⟨w.heap.size, 3, none⟩ = some (.int .i64 x3) := IB.cell J2 3 (by first | decide | simp); clear J2 hO hBx)
    | (go_at_call 10; (with_reducible refine (KJ.out w2 S2.out.T).mono ?_); rintro e w3 ⟨A3, c3, rfl, hO, hBx⟩; have S3 := hid (S2.out.below hBx); have O3 := hid hO.reads; have P3 := hid (O2.out.below hBx).reads; have J3 := S3.out.J; have m0 : World.cell? w3 ⟨w.heap.size, 0, none⟩ = some (.int .i64 x0) := IB.cell J3 0 (by first | decide | simp); have m1 : World.cell? w3 ⟨w.heap.size, 1, none⟩ = some (.int .i64 x1) := IB.cell J3 1 (by first | decide | simp); have m2 : World.cell? w3 ⟨w.heap.size, 2, none⟩ = some (.int .i64 x2) := IB.cell J3 2 (by first | decide | simp); have m3 : World.cell? w3 ⟨w.heap.size, 3, none⟩ = some (.int .i64 x3) := IB.cell J3 3 (by first | decide | simp); clear J3 hO hBx)
    | (go_at_call 12; (with_reducible refine (K1.out w3 A2 c2 A3 c3 P3.out O3.out).mono ?_); rintro e w4 ⟨rfl, hBx⟩; have S4 := hid (S3.out.below hBx); have J4 := S4.out.J; have q0 : World.cell? w4 ⟨w.heap.size, 0, none⟩ = some (.int .i64 x0) := IB.cell J4 0 (by first | decide | simp); have q1 : World.cell? w4 ⟨w.heap.size, 1, none⟩ = some (.int .i64 x1) := IB.cell J4 1 (by first | decide | simp); have q2 : World.cell? w4 ⟨w.heap.size, 2, none⟩ = some (.int .i64 x2) := IB.cell J4 2 (by first | decide | simp); have q3 : World.cell? w4 ⟨w.heap.size, 3, none⟩ = some (.int .i64 x3) := IB.cell J4 3 (by first | decide | simp); clear J4 hBx))
  rename_i hHeldZ
  clear hHeldZ S0 S2 S3 O2 O3 P3 R0
  clear k0 k1 k2 k3 l0 l1 l2 l3 m0 m1 m2 m3 q0 q1 q2 q3
  simp only [Exit.then]
  have size4 : (Try.prog.info? 29).map (·.size) = some 4 := by kernel_rfl
  have SZ4 := hid size4
  clear size4
  go_wp2_with (refine wpList_loadI rfl 29 (.tmp 5) rfl _ 29 [x0, x1, x2, x3] 4 _ rfl S4.out.J Try.underlying29 rfl SZ4.out rfl ?_)
  refine (K2.out w4 S4.out.R S4.out.T).mono ?_
  rintro e w5 ⟨rfl, hB⟩
  have B5 := hid (S4.out.below hB).B
  clear hB S4
  go_wp2_with fail
  refine (KL.out _ w5).mono ?_
  rintro e w6 ⟨A6, c6, rfl, hO, hB⟩
  have O6 := hid hO
  have B6 := hid (B5.out.trans (hB.mono B5.out.size))
  clear hO hB
  go_wp2_with fail
  refine (KL.out _ w6).mono ?_
  rintro e w7 ⟨A7, c7, rfl, hO, hB⟩
  have O7 := hid hO.reads
  have P7 := hid (O6.out.below hB).reads
  have B7 := hid (B6.out.trans (hB.mono B6.out.size))
  clear hO hB O6
  go_wp2_with fail
  refine (K3.out w7 A6 c6 A7 c7 P7.out O7.out).mono ?_
  rintro e w8 ⟨rfl, hB⟩
  have B8 := hid (B7.out.trans (hB.mono B7.out.size))
  clear hB
  go_wp2
  go_ret
  exact ⟨by simp, B8.out⟩
end Go.Proofs.Ytcfmipobgljbeaa
