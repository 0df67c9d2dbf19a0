/- The walks of the program's dot and Open, the reference's Open, and of the law PitchOpens. -/
import Derived.Test.YtmebhhjkbaddmaaDotR
import Derived.Test.YtmebhhjkbaddmaaBetterW
import Derived.Test.YtmebhhjkbaddmaaSliceW
import Derived.Test.YtmebhhjkbaddmaaMakeI
import Derived.Deep.RegionHeld3
namespace Go.Proofs.Ytmebhhjkbaddmaa
set_option linter.unusedVariables false
set_option linter.unusedSimpArgs false
set_option maxRecDepth 100000
open Go.RowKit

set_option maxHeartbeats 2000000 in
theorem pitchDot_any (A A2 : Option Addr) (cA cB n m : Nat) (xs ys : List Int) (w : World) (hx : Rs w w.heap.size A xs) (hy : Rs w w.heap.size A2 ys) (hn : xs.length = n) (hm : ys.length = m) (hnm : n ≤ m) (hl : n ≤ 1000) (h1 : In16 xs) (h2 : In16 ys) :
    Calls Try.prog 55 #[.slice A n cA, .slice A2 m cB] w fun e w' => e = .returned (.int .i64 (dotL xs ys n)) ∧ w = w' := by
  have HX := hid hx
  have HY := hid hy
  have HN := hid hn
  have HM := hid hm
  have H1 := hid h1
  have H2 := hid h2
  clear hx hy hn hm h1 h2
  go_enter Try.func55, Try.ntmps55
  go_wp2
  go_loop [5, 10] (fun sv iv => ∃ (k : Nat) (s : Int), k ≤ n ∧ iv = .int .i64 k ∧ sv = .int .i64 s ∧ Hid (s = dotL xs ys k)) (fun _ iv => n - (intOf iv).toNat)
  case atStart => exact ⟨0, 0, by omega, rfl, rfl, hid rfl⟩
  case round =>
    obtain ⟨k, s, hk, rfl, rfl, HS⟩ := hrel
    by_cases hlt : k < n
    · have dr := dotL_range H1.out H2.out k
      rw [← HS.out] at dr
      have s1 : -1073741824000 ≤ s := by omega
      have s2 : s ≤ 1073741824000 := by omega
      have ST := hid (show dotL xs ys (k + 1) = s + xs.getD k 0 * ys.getD k 0 by rw [HS.out]; rfl)
      obtain ⟨ad, rfl, _, k0⟩ := HX.out.at_ (k := k) (by rw [HN.out]; exact hlt)
      obtain ⟨ae, rfl, _, k1⟩ := HY.out.at_ (k := k) (by rw [HM.out]; omega)
      have x16 := H1.out k
      have y16 := H2.out k
      generalize xs.getD k 0 = x at *
      generalize ys.getD k 0 = y at *
      obtain ⟨p1, p2⟩ := prod16 x16.1 x16.2 y16.1 y16.2
      have i2 : (k : Int) < m := by omega
      clear dr
      go_wp2
      go_round
      case rel => exact ⟨k + 1, _, by omega, by go_num, rfl, hid ST.out.symm⟩
      case measure => simp [intOf] <;> omega
    · obtain rfl : k = n := by omega
      go_wp2
      go_ret
      exact ⟨by rw [← HS.out]; rfl, rfl⟩

/-! Plain facts: what goes best. -/
theorem self_nn (x : Int) : 0 ≤ x * x := by
  rcases Int.le_total 0 x with h | h
  · exact Int.mul_nonneg h h
  · have := Int.mul_nonneg (show 0 ≤ -x by omega) (show 0 ≤ -x by omega)
    rwa [Int.neg_mul_neg] at this
theorem sq_nn (b : List Int) (n : Nat) : 0 ≤ dotL b b n := by
  unfold dotL
  induction n with
  | zero => simp [sumN]
  | succ n ih =>
    simp only [sumN]
    have : 0 ≤ dterm b b n := by unfold dterm; exact self_nn _
    omega
theorem sq_zero {b : List Int} {n : Nat} (h : dotL b b n = 0) : ∀ i, i < n → b.getD i 0 = 0 := by
  induction n with
  | zero => intro i hi; omega
  | succ n ih =>
    intro i hi
    have h1 := sq_nn b n
    have h2 : 0 ≤ dterm b b n := by unfold dterm; exact self_nn _
    have h3 : dotL b b n + dterm b b n = 0 := h
    by_cases e : i = n
    · subst e
      have h4 : b.getD i 0 * b.getD i 0 = 0 := by unfold dterm at h3 h2; omega
      rcases Int.mul_eq_zero.1 h4 with h5 | h5 <;> exact h5
    · exact ih (by omega) i (by omega)
theorem dot_pos {a b : List Int} {n : Nat} (h : 0 < dotL a b n) : 0 < dotL b b n := by
  have h1 := sq_nn b n
  by_cases h0 : dotL b b n = 0
  · exfalso
    have hz := sq_zero h0
    have : dotL a b n = 0 := by
      unfold dotL
      rw [sumN_congr n (g := fun _ => 0) (fun i hi => by unfold dterm; rw [hz i hi]; simp)]
      exact sumN_zero n
    omega
  · omega

theorem in16_drop {l : List Int} (h : In16 l) (k : Nat) : In16 (l.drop k) := fun i => by
  rw [List.getD_eq_getElem?_getD, List.getElem?_drop, ← List.getD_eq_getElem?_getD]
  exact h (k + i)
theorem in16_take {l : List Int} (h : In16 l) (k : Nat) : In16 (l.take k) := fun i => by
  rw [List.getD_eq_getElem?_getD, List.getElem?_take]
  split
  · rw [← List.getD_eq_getElem?_getD]; exact h i
  · simp

def opNow (l : List Int) : List Int := l.drop 79
def opWas (l : List Int) (o : Nat) : List Int := (l.drop o).take 80
def opC (l : List Int) (o : Nat) : Int := dotL (opNow l) (opWas l o) 80
def opE (l : List Int) (o : Nat) : Int := dotL (opWas l o) (opWas l o) 80
/-- Behind n lags: the best one, its sums. -/
def opS (l : List Int) : Nat → Int × Int × Int
  | 0 => (20, 0, 0)
  | n + 1 => if decide (0 < opC l (59 - n)) && betterB (opC l (59 - n)) (opE l (59 - n)) (opS l n).2.1 (opS l n).2.2 then (20 + (n : Int), opC l (59 - n), opE l (59 - n)) else opS l n
theorem opS_be (l : List Int) (n : Nat) : 0 ≤ (opS l n).2.2 := by
  induction n with
  | zero => simp [opS]
  | succ n ih =>
    unfold opS
    split
    · exact sq_nn _ _
    · exact ih
theorem opS_rng {l : List Int} (h : In16 l) (n : Nat) : (-85899345920 ≤ (opS l n).2.1 ∧ (opS l n).2.1 ≤ 85899345920) ∧ -85899345920 ≤ (opS l n).2.2 ∧ (opS l n).2.2 ≤ 85899345920 := by
  induction n with
  | zero => simp [opS]
  | succ n ih =>
    have g1 : In16 (opWas l (59 - n)) := in16_take (in16_drop h _) 80
    have r1 := dotL_range (in16_drop h 79) g1 80
    have r2 := dotL_range g1 g1 80
    unfold opS
    split
    · simp only
      unfold opC opE opNow
      omega
    · exact ih
def opErr (l : List Int) : Int := if l.length = 159 then errOf (all16 l) else 1
def opV (l : List Int) : Int := if opErr l = 0 then (opS l 60).1 else 0
/-- Where nothing has gone yet, whatever goes is better. -/
theorem op_first {c e bc : Int} (h : 0 < c → 0 < e) : (decide (0 < c) && betterB c e bc 0) = decide (0 < c) := by
  by_cases hc : 0 < c
  · rw [better_yes (h hc) (by omega), decide_eq_true hc]; rfl
  · rw [decide_eq_false hc]; rfl
theorem opWas_len {l : List Int} (h : l.length = 159) {o : Nat} (ho : o ≤ 59) : (opWas l o).length = 80 := by unfold opWas; rw [List.length_take, List.length_drop]; omega
theorem opNow_len {l : List Int} (h : l.length = 159) : (opNow l).length = 80 := by unfold opNow; rw [List.length_drop]; omega
def OpAns (l : List Int) (w : World) (e : Ending) (w' : World) : Prop := e = .returned (.tuple #[.int .i64 (opV l), .int .i64 (opErr l)]) ∧ Below w.heap.size w w'
theorem OpAns.bad {l : List Int} {w w' : World} {er : Int} (h : opErr l = er) (h0 : er ≠ 0) (hB : Below w.heap.size w w') : OpAns l w (.returned (.tuple #[.int .i64 0, .int .i64 er])) w' :=
  ⟨by rw [show opV l = 0 by unfold opV; rw [if_neg (by rw [h]; exact h0)], h], hB⟩


set_option maxHeartbeats 4000000 in
theorem pitchOpen_any (A : Option Addr) (c n : Nat) (l : List Int) (w : World) (hr : Rs w w.heap.size A l) (hn : l.length = n) (hl : n ≤ 17592186044416) (hc : n ≤ c) :
    Calls Try.prog 19 #[.slice A n c] w (OpAns l w) := by
  have KR := hid (fun (W : World) (h : Rs W w.heap.size A l) => pitchright_any A c n w.heap.size l W h hn (by omega))
  by_cases h159 : n = 159
  rotate_left
  · have FIN := hid (OpAns.bad (l := l) (w := w) (w' := w) (er := 1) (by unfold opErr; rw [if_neg (by omega)]) (by decide) (Below.refl _ _))
    have d0 : ((n : Int) != 159) = true := by simp; omega
    have d1 : ¬ (n : Int) = 159 := by omega
    clear h159 hn hr hc
    go_enter Try.func19, Try.ntmps19
    go_wp2
    go_ret2
    exact FIN.out
  subst h159
  by_cases g : all16 l = true
  rotate_left
  · have gf : all16 l = false := by simpa using g
    have FIN := hid (OpAns.bad (l := l) (w := w) (w' := w) (er := 2) (by unfold opErr; rw [if_pos hn, gf]; rfl) (by decide) (Below.refl _ _))
    have HR := hid hr
    rw [gf] at KR
    clear g gf hn hr hc
    go_enter Try.func19, Try.ntmps19
    go_wp2_with fail
    refine (KR.out _ HR.out).mono ?_
    rintro e w1 ⟨rfl, rfl⟩
    go_wp2
    go_ret2
    exact FIN.out
  have HE := hid (show opErr l = 0 by unfold opErr; rw [if_pos hn, g]; rfl)
  have HV := hid (show opV l = (opS l 60).1 by unfold opV; rw [if_pos HE.out])
  rw [g] at KR
  have G := hid (show In16 l from all16_at g)
  have HN := hid hn
  have HR := hid hr
  obtain ⟨ad, rfl, hadb, _⟩ := hr.ad (by omega)
  have hc79 : ¬ c = 79 := by omega
  have q1 : (79 : Int) ≤ c := by omega
  have q2 : 79 ≤ c := by omega
  have RN := hid (show Rs w w.heap.size (some (ad.add 79)) (opNow l) from by
    have h := hr.drop (k := 79) (cap := c) (by omega) (by omega)
    rw [if_neg hc79] at h
    exact h)
  clear g hn hr
  go_enter Try.func19, Try.ntmps19
  go_wp2_with fail
  refine (KR.out _ HR.out).mono ?_
  rintro e w1 ⟨rfl, rfl⟩
  go_wp2
  go_loopw [5, 6, 7, 8] (fun bv cv ev iv wr => ∃ (n L : Nat), n ≤ 60 ∧ Hid (L = 20 + n) ∧ iv = .int .i64 L ∧ bv = .int .i64 (opS l n).1 ∧ cv = .int .i64 (opS l n).2.1 ∧ ev = .int .i64 (opS l n).2.2 ∧ Hid (Below w.heap.size w wr)) (fun _ _ _ iv _ => 80 - (intOf iv).toNat)
  case atStart => exact ⟨0, 20, by omega, hid rfl, rfl, rfl, rfl, rfl, hid (Below.refl _ _)⟩
  case round =>
    obtain ⟨n, L, hn, HLL, rfl, rfl, rfl, rfl, HB⟩ := hrel
    have hL := HLL.out
    by_cases hlt : n < 60
    · obtain ⟨o, ho⟩ : ∃ o, o = 59 - n := ⟨_, rfl⟩
      have hd : (79 : Int) - (L : Nat) = (o : Nat) := by omega
      have o1 : (o : Int) ≤ c := by omega
      have o2 : o ≤ c := by omega
      have o3 : ¬ c = o := by omega
      have o4 : (o : Int) ≤ 59 := by omega
      have o5 : (L : Int) ≤ 79 := by omega
      have o6 : (80 : Int) ≤ ((c - o : Nat) : Int) := by omega
      have o7 : 80 ≤ c - o := by omega
      have HO := hid ho
      clear hL ho
      have RW := hid (show Rs wr wr.heap.size (some (ad.add o)) (opWas l o) from by
        have h := (HR.out.below HB.out).drop (k := o) (cap := c) (by rw [HN.out]; omega) (by rw [HN.out]; omega)
        rw [if_neg o3] at h
        exact (h.take (k := 80) (by rw [List.length_drop, HN.out]; omega)).more HB.out.size)
      have RM := hid ((RN.out.below HB.out).more HB.out.size)
      have l80 := opWas_len HN.out (o := o) (by omega)
      have g16 : In16 (opWas l o) := in16_take (in16_drop G.out o) 80
      have gn16 : In16 (opNow l) := in16_drop G.out 79
      have K1 := pitchDot_any (some ⟨ad.block, ad.off + 79, none⟩) (some (ad.add o)) (c - 79) (c - o) 80 80 (opNow l) (opWas l o) wr RM.out RW.out (opNow_len HN.out) l80 (Nat.le_refl _) (by omega) gn16 g16
      have K2 := pitchDot_any (some (ad.add o)) (some (ad.add o)) (c - o) (c - o) 80 80 (opWas l o) (opWas l o) wr RW.out RW.out l80 l80 (Nat.le_refl _) (by omega) g16 g16
      have rC := dotL_range gn16 g16 80
      have rE := dotL_range g16 g16 80
      have pos := dot_pos (a := opNow l) (b := opWas l o) (n := 80)
      have bnn := opS_be l n
      have rS := opS_rng G.out n
      have ST := hid (show opS l (n + 1) = if decide (0 < opC l o) && betterB (opC l o) (opE l o) (opS l n).2.1 (opS l n).2.2 then (20 + (n : Int), opC l o, opE l o) else opS l n by rw [opS, ← HO.out])
      unfold opC opE at ST
      generalize dotL (opNow l) (opWas l o) 80 = C at *
      generalize dotL (opWas l o) (opWas l o) 80 = E at *
      have HL2 := hid (show L + 1 = 20 + (n + 1) by have := HLL.out; omega)
      have hLI := hid (show (20 : Int) + n = (L : Nat) by have := HLL.out; omega)
      obtain ⟨q1, hq1⟩ : ∃ q1, q1 = (opS l n).1 := ⟨_, rfl⟩
      obtain ⟨q2, hq2⟩ : ∃ q2, q2 = (opS l n).2.1 := ⟨_, rfl⟩
      obtain ⟨q3, hq3⟩ : ∃ q3, q3 = (opS l n).2.2 := ⟨_, rfl⟩
      rw [← hq2, ← hq3] at ST rS
      rw [← hq3] at bnn
      rw [← hq1, ← hq2, ← hq3]
      have HQ := hid (show opS l n = (q1, q2, q3) by rw [hq1, hq2, hq3])
      have K1' := hid K1
      have K2' := hid K2
      have KB := hid (fun W => better_any C E q2 q3 W (by omega) (by omega) (by omega) (by omega) (by omega) (by omega) (by omega) (by omega))
      clear K1 K2 l80 g16 gn16 hq1 hq2 hq3
      by_cases hC : 0 < C
      · by_cases h0 : q3 = 0
        · subst h0
          have NS := hid (show opS l (n + 1) = (20 + (n : Int), C, E) by rw [ST.out, op_first (fun h => pos h), decide_eq_true hC]; rfl)
          clear ST pos bnn rS rC rE
          go_wp2_with (first
            | (go_at_call 55; (with_reducible refine K1'.out.mono ?_); rintro en w' ⟨rfl, rfl⟩)
            | (go_at_call 55; (with_reducible refine K2'.out.mono ?_); rintro en w' ⟨rfl, rfl⟩))
          go_roundw
          case rel => exact ⟨n + 1, L + 1, by omega, HL2, by go_num, by rw [NS.out, ← hLI.out], by rw [NS.out], by rw [NS.out], HB⟩
          case measure => simp [intOf] <;> omega
        · have e1 : (q3 == 0) = false := by simpa using h0
          obtain ⟨b, hb⟩ : ∃ b, b = betterB C E q2 q3 := ⟨_, rfl⟩
          rw [← hb, decide_eq_true hC] at ST
          rw [← hb] at KB
          clear hb pos bnn rS rC rE
          go_wp2_with (first
            | (go_at_call 55; (with_reducible refine K1'.out.mono ?_); rintro en w' ⟨rfl, rfl⟩)
            | (go_at_call 55; (with_reducible refine K2'.out.mono ?_); rintro en w' ⟨rfl, rfl⟩))
          refine (KB.out _).mono ?_
          rintro en w2 ⟨rfl, hB⟩
          have B2 := hid (HB.out.trans (hB.mono HB.out.size))
          clear hB
          cases b
          · have NS := hid (show opS l (n + 1) = (q1, q2, q3) by rw [ST.out]; exact HQ.out)
            go_wp2
            go_roundw
            case rel => exact ⟨n + 1, L + 1, by omega, HL2, by go_num, by rw [NS.out], by rw [NS.out], by rw [NS.out], B2⟩
            case measure => simp [intOf] <;> omega
          · have NS := hid (show opS l (n + 1) = (20 + (n : Int), C, E) by rw [ST.out]; rfl)
            go_wp2
            go_roundw
            case rel => exact ⟨n + 1, L + 1, by omega, HL2, by go_num, by rw [NS.out, ← hLI.out], by rw [NS.out], by rw [NS.out], B2⟩
            case measure => simp [intOf] <;> omega
      · have NS := hid (show opS l (n + 1) = (q1, q2, q3) by rw [ST.out, decide_eq_false hC]; exact HQ.out)
        clear ST pos bnn rS rC rE
        go_wp2_with (first
          | (go_at_call 55; (with_reducible refine K1'.out.mono ?_); rintro en w' ⟨rfl, rfl⟩)
          | (go_at_call 55; (with_reducible refine K2'.out.mono ?_); rintro en w' ⟨rfl, rfl⟩))
        go_roundw
        case rel => exact ⟨n + 1, L + 1, by omega, HL2, by go_num, by rw [NS.out], by rw [NS.out], by rw [NS.out], HB⟩
        case measure => simp [intOf] <;> omega
    · obtain rfl : n = 60 := by omega
      obtain rfl : L = 80 := by omega
      clear hL hlt
      go_wp2
      go_ret2
      exact ⟨by rw [HE.out, HV.out]; rfl, HB.out⟩

set_option maxHeartbeats 4000000 in
theorem refOpen_any (A : Option Addr) (c n : Nat) (l : List Int) (w : World) (hr : Rs w w.heap.size A l) (hn : l.length = n) (hl : n ≤ 17592186044416) (hc : n ≤ c) :
    Calls Try.prog 20 #[.slice A n c] w (OpAns l w) := by
  have KR := hid (fun (W : World) (h : Rs W w.heap.size A l) => Right_any A c n w.heap.size l W h hn (by omega))
  by_cases h159 : n = 159
  rotate_left
  · have FIN := hid (OpAns.bad (l := l) (w := w) (w' := w) (er := 1) (by unfold opErr; rw [if_neg (by omega)]) (by decide) (Below.refl _ _))
    have d0 : ((n : Int) != 159) = true := by simp; omega
    have d1 : ¬ (n : Int) = 159 := by omega
    clear h159 hn hr hc
    go_enter Try.func20, Try.ntmps20
    go_wp2
    go_ret2
    exact FIN.out
  subst h159
  by_cases g : all16 l = true
  rotate_left
  · have gf : all16 l = false := by simpa using g
    have FIN := hid (OpAns.bad (l := l) (w := w) (w' := w) (er := 2) (by unfold opErr; rw [if_pos hn, gf]; rfl) (by decide) (Below.refl _ _))
    have HR := hid hr
    rw [gf] at KR
    clear g gf hn hr hc
    go_enter Try.func20, Try.ntmps20
    go_wp2_with fail
    refine (KR.out _ HR.out).mono ?_
    rintro e w1 ⟨rfl, rfl⟩
    go_wp2
    go_ret2
    exact FIN.out
  have HE := hid (show opErr l = 0 by unfold opErr; rw [if_pos hn, g]; rfl)
  have HV := hid (show opV l = (opS l 60).1 by unfold opV; rw [if_pos HE.out])
  rw [g] at KR
  have G := hid (show In16 l from all16_at g)
  have HN := hid hn
  have HR := hid hr
  obtain ⟨ad, rfl, hadb, _⟩ := hr.ad (by omega)
  have hc79 : ¬ c = 79 := by omega
  have q1 : (79 : Int) ≤ c := by omega
  have q2 : 79 ≤ c := by omega
  have RN := hid (show Rs w w.heap.size (some (ad.add 79)) (opNow l) from by
    have h := hr.drop (k := 79) (cap := c) (by omega) (by omega)
    rw [if_neg hc79] at h
    exact h)
  clear g hn hr
  go_enter Try.func20, Try.ntmps20
  go_wp2_with fail
  refine (KR.out _ HR.out).mono ?_
  rintro e w1 ⟨rfl, rfl⟩
  go_wp2
  go_loopw [4, 5, 6, 7] (fun bv cv ev iv wr => ∃ (n L : Nat), n ≤ 60 ∧ Hid (L = 20 + n) ∧ iv = .int .i64 L ∧ bv = .int .i64 (opS l n).1 ∧ cv = .int .i64 (opS l n).2.1 ∧ ev = .int .i64 (opS l n).2.2 ∧ Hid (Below w.heap.size w wr)) (fun _ _ _ iv _ => 80 - (intOf iv).toNat)
  case atStart => exact ⟨0, 20, by omega, hid rfl, rfl, rfl, rfl, rfl, hid (Below.refl _ _)⟩
  case round =>
    obtain ⟨n, L, hn, HLL, rfl, rfl, rfl, rfl, HB⟩ := hrel
    have hL := HLL.out
    by_cases hlt : n < 60
    · obtain ⟨o, ho⟩ : ∃ o, o = 59 - n := ⟨_, rfl⟩
      have hd : (79 : Int) - (L : Nat) = (o : Nat) := by omega
      have o1 : (o : Int) ≤ c := by omega
      have o2 : o ≤ c := by omega
      have o3 : ¬ c = o := by omega
      have o4 : (o : Int) ≤ 59 := by omega
      have o5 : (L : Int) < 80 := by omega
      obtain ⟨u, hu⟩ : ∃ u, u = o + 80 := ⟨_, rfl⟩
      have hw0 : IntKind.i64.wrap ((79 : Int) - (L : Nat)) = (o : Nat) := by rw [IntKind.wrap_i64]; omega
      have hw1 : IntKind.i64.wrap ((159 : Int) - (L : Nat)) = (u : Nat) := by rw [IntKind.wrap_i64]; omega
      have u1 : (u : Int) ≤ c := by omega
      have u2 : (o : Int) ≤ u := by omega
      have u3 : u - o = 80 := by omega
      have u4 : (0 : Int) ≤ o := by omega
      have u5 : (0 : Int) ≤ u := by omega
      have HU := hid hu
      have o6 : (80 : Int) ≤ ((c - o : Nat) : Int) := by omega
      have o7 : 80 ≤ c - o := by omega
      have HO := hid ho
      clear hL ho hu hd o6 o7
      have RW := hid (show Rs wr wr.heap.size (some (ad.add o)) (opWas l o) from by
        have h := (HR.out.below HB.out).drop (k := o) (cap := c) (by rw [HN.out]; omega) (by rw [HN.out]; omega)
        rw [if_neg o3] at h
        exact (h.take (k := 80) (by rw [List.length_drop, HN.out]; omega)).more HB.out.size)
      have RM := hid ((RN.out.below HB.out).more HB.out.size)
      have l80 := opWas_len HN.out (o := o) (by omega)
      have g16 : In16 (opWas l o) := in16_take (in16_drop G.out o) 80
      have gn16 : In16 (opNow l) := in16_drop G.out 79
      have K1 := fun W (h1 : Rs W W.heap.size (some ⟨ad.block, ad.off + 79, none⟩) (opNow l)) (h2 : Rs W W.heap.size (some (ad.add o)) (opWas l o)) => dot_any (some ⟨ad.block, ad.off + 79, none⟩) (some (ad.add o)) (c - 79) (c - o) 80 80 (opNow l) (opWas l o) W h1 h2 (opNow_len HN.out) l80 (Nat.le_refl _) (by omega) gn16 g16
      have K2 := fun W (h2 : Rs W W.heap.size (some (ad.add o)) (opWas l o)) => dot_any (some (ad.add o)) (some (ad.add o)) (c - o) (c - o) 80 80 (opWas l o) (opWas l o) W h2 h2 l80 l80 (Nat.le_refl _) (by omega) g16 g16
      have rC := dotL_range gn16 g16 80
      have rE := dotL_range g16 g16 80
      have pos := dot_pos (a := opNow l) (b := opWas l o) (n := 80)
      have bnn := opS_be l n
      have rS := opS_rng G.out n
      have ST := hid (show opS l (n + 1) = if decide (0 < opC l o) && betterB (opC l o) (opE l o) (opS l n).2.1 (opS l n).2.2 then (20 + (n : Int), opC l o, opE l o) else opS l n by rw [opS, ← HO.out])
      unfold opC opE at ST
      generalize dotL (opNow l) (opWas l o) 80 = C at *
      generalize dotL (opWas l o) (opWas l o) 80 = E at *
      have HL2 := hid (show L + 1 = 20 + (n + 1) by have := HLL.out; omega)
      have hLI := hid (show (20 : Int) + n = (L : Nat) by have := HLL.out; omega)
      obtain ⟨q1, hq1⟩ : ∃ q1, q1 = (opS l n).1 := ⟨_, rfl⟩
      obtain ⟨q2, hq2⟩ : ∃ q2, q2 = (opS l n).2.1 := ⟨_, rfl⟩
      obtain ⟨q3, hq3⟩ : ∃ q3, q3 = (opS l n).2.2 := ⟨_, rfl⟩
      rw [← hq2, ← hq3] at ST rS
      rw [← hq3] at bnn
      rw [← hq1, ← hq2, ← hq3]
      have HQ := hid (show opS l n = (q1, q2, q3) by rw [hq1, hq2, hq3])
      have K1' := hid K1
      have K2' := hid K2
      have KB := hid (fun W => refBetter_any C E q2 q3 W (by omega) (by omega) (by omega) (by omega) (by omega) (by omega) (by omega) (by omega))
      clear K1 K2 l80 g16 gn16 hq1 hq2 hq3 pos bnn rS rC rE
      obtain ⟨W, rfl⟩ : ∃ W : World, W = wr := ⟨_, rfl⟩
      have RM1 := hid (show Rs W.drew W.drew.heap.size (some ⟨ad.block, ad.off + 79, none⟩) (opNow l) from RM.out)
      have RW1 := hid (show Rs W.drew W.drew.heap.size (some (ad.add o)) (opWas l o) from RW.out)
      have HB1 := hid (show Below w.heap.size w W.drew from HB.out.drew)
      go_wp2
      go_region_held3 (fun _ => True) (trivial) (first
        | (go_at_call 57; (with_reducible refine (K1'.out W.drew RM1.out RW1.out).mono ?_); rintro en w2 ⟨rfl, hB⟩; have B2 := hid (HB1.out.trans (hB.mono HB1.out.size)); have R2 := hid ((RW1.out.below hB).more hB.size); clear hB)
        | (go_at_call 57; (with_reducible refine (K2'.out w2 R2.out).mono ?_); rintro en w3 ⟨rfl, hB⟩; have B3 := hid (B2.out.trans (hB.mono B2.out.size)); clear hB))
      all_goals
        rename_i hHeldZ
        clear hHeldZ hw0 hw1 K1' K2'
        try simp only [Exit.then]
        by_cases hC : 0 < C
        · obtain ⟨b, hb⟩ : ∃ b, b = betterB C E q2 q3 := ⟨_, rfl⟩
          rw [← hb, decide_eq_true hC] at ST
          rw [← hb] at KB
          clear hb
          go_wp2_with fail
          refine (KB.out _).mono ?_
          rintro en w4 ⟨rfl, hB⟩
          have B4 := hid (B3.out.trans (hB.mono B3.out.size))
          clear hB
          cases b
          · have NS := hid (show opS l (n + 1) = (q1, q2, q3) by rw [ST.out]; exact HQ.out)
            go_wp2
            go_roundw
            case rel => exact ⟨n + 1, L + 1, by omega, HL2, by go_num, by rw [NS.out], by rw [NS.out], by rw [NS.out], B4⟩
            case measure => simp [intOf] <;> omega
          · have NS := hid (show opS l (n + 1) = (20 + (n : Int), C, E) by rw [ST.out]; rfl)
            go_wp2
            go_roundw
            case rel => exact ⟨n + 1, L + 1, by omega, HL2, by go_num, by rw [NS.out, ← hLI.out], by rw [NS.out], by rw [NS.out], B4⟩
            case measure => simp [intOf] <;> omega
        · have NS := hid (show opS l (n + 1) = (q1, q2, q3) by rw [ST.out, decide_eq_false hC]; exact HQ.out)
          clear ST
          go_wp2
          go_roundw
          case rel => exact ⟨n + 1, L + 1, by omega, HL2, by go_num, by rw [NS.out], by rw [NS.out], by rw [NS.out], B3⟩
          case measure => simp [intOf] <;> omega
    · obtain rfl : n = 60 := by omega
      obtain rfl : L = 80 := by omega
      clear hL hlt
      go_wp2
      go_ret2
      exact ⟨by rw [HE.out, HV.out]; rfl, HB.out⟩

def Z159 : List Int := List.replicate 159 0
theorem z159_len : Z159.length = 159 := by simp [Z159]
theorem op_zero : opV Z159 = 20 := by decide +kernel
theorem rs_block1 {w : World} {g : Nat} {t : TypeId} {xs : List Int} (h : IB w g t xs) : Rs w w.heap.size (some ⟨g, 0, none⟩) xs :=
  ⟨by simp [ints], fun _ => ⟨_, rfl, Blk.lt h, fun j u hu => by
    have hj : j < xs.length := by
      have := (List.getElem?_eq_some_iff.mp hu).1
      rwa [ints_len] at this
    rw [ints_get xs j hj] at hu
    rw [add_zero', ← hu]
    exact IB.cell h j hj⟩⟩

set_option maxHeartbeats 4000000 in
theorem walkPitchOpens (w : World) (A : Option Addr) (c : Nat) (xs : List Int) (hr : Rs w w.heap.size A xs) (hw : W64 xs) (hl : xs.length ≤ c) (hc : c * 8 ≤ 140737488351232) :
    Calls Try.prog 4 #[.slice A xs.length c] w fun e w' => e = .returned (.bool true) ∧ Below w.heap.size w w' := by
  have KI := hid (ints_any A c xs w hr (by omega))
  have K1 := fun W A1 c1 (h : Rs W W.heap.size A1 xs) (hc1 : xs.length ≤ c1) => pitchOpen_any A1 c1 xs.length xs W h rfl (by omega) hc1
  have K2 := fun W (h : Rs W W.heap.size A xs) => refOpen_any A c xs.length xs W h rfl (by omega) hl
  have K3 := fun W A1 (h : Rs W W.heap.size A1 Z159) => pitchOpen_any A1 159 159 Z159 W h z159_len (by omega) (by omega)
  unfold OpAns at K1 K2 K3
  rw [op_zero] at K3
  have K1' := hid K1
  have K2' := hid K2
  have K3' := hid K3
  have HR := hid hr
  clear K1 K2 K3 hr hw hl hc
  generalize opV xs = v at *
  generalize opErr xs = er at *
  generalize opErr Z159 = er3 at *
  go_enter Try.func4, Try.ntmps4
  go_wp2_with fail
  refine KI.out.mono ?_
  rintro e w1 ⟨A1, c1, rfl, hO, hB⟩
  have O1 := hid hO
  have B1 := hid hB
  clear hO hB
  go_wp2_with fail
  refine (K1'.out w1 A1 c1 O1.out.reads O1.out.cap.1).mono ?_
  rintro e w2 ⟨rfl, hB⟩
  have B2 := hid (B1.out.trans (hB.mono B1.out.size))
  clear hB
  go_wp2_with fail
  refine (K2'.out w2 ((HR.out.below B2.out).more B2.out.size)).mono ?_
  rintro e w3 ⟨rfl, hB⟩
  have B3 := hid (B2.out.trans (hB.mono B2.out.size))
  have s3 := B3.out.size
  clear hB
  go_wp2_with (at_make; refine wpList_makeI rfl _ _ rfl .i64 .i64 159 rfl rfl w3.heap.size (by omega) (Nat.le_refl _) ?_; intro w4 hO hG; have O4 := hid (show Own w4 w3.heap.size (some ⟨w3.heap.size, 0, none⟩) 159 Z159 from hO); have B4 := hid (B3.out.trans (((Below.refl w3.heap.size w3).grown hG (Nat.le_refl _) (by simp)).mono s3)); clear hO hG)
  refine (K3'.out _ _ O4.out.reads).mono ?_
  rintro e w5 ⟨rfl, hB⟩
  have B5 := hid (B4.out.trans (hB.mono B4.out.size))
  clear hB
  go_wp2
  go_ret
  exact ⟨by simp, B5.out⟩
end Go.Proofs.Ytmebhhjkbaddmaa
