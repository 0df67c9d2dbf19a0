/- Texts that the law rests on, laid together: CopyI, FadeW, SumM, GainW. -/
import Derived.Test.YthoiikkjjaldnaaDoorZ6b4648
import Derived.Laws.CopyOwn
import Derived.Deep.RegionLaw
import Derived.Test.YthoiikkjjaldnaaDoorZ104825
import Derived.Test.YthoiikkjjaldnaaDoorZ7a1a29
/- copy into a row of numbers that is known whole, as a step of a drawing region; an answer that lies in a block. -/
namespace Go.Proofs.YthoiikkjjaldnaaDoor
set_option linter.unusedVariables false
set_option linter.unusedSimpArgs false
set_option maxRecDepth 100000
open Go.RowKit

theorem infoSz : (Tryd.prog.info? 3).map (·.size) = some 1 := by kernel_rfl

theorem step_copyI {ops : Array Oper} {o : Oper} {a : Act} {w : World} {K : Act → World → Prop} {Q : Exit → Act → World → Prop} {E : Prop} (hgd : o.guard = none) (d s : Operand) (dT sT : TypeId)
    (ho : o.op = .call { callee := .builtin .copy, args := #[d, s], argTypes := #[dT, sT] }) (hu : Tryd.prog.underlying dT = some (.slice 3))
    (g off dLen dCap : Nat) (ad : Addr) (sLen sCap : Nat) (hd : a.eval d = .slice (some ⟨g, off, none⟩) dLen dCap) (hs : a.eval s = .slice (some ad) sLen sCap)
    (t : TypeId) (xs ys zs : List Int) (hg : IB w g t xs) (hn : ys.length = Nat.min sLen dLen) (hsrc : ∀ j, j < ys.length → w.cell? (ad.add j) = some (.int .i64 (ys.getD j 0)))
    (hfit : off + ys.length ≤ xs.length) (hz : zs = xs.take off ++ ys ++ xs.drop (off + ys.length))
    (h : K (a.put o.dst (goInt ys.length)) (w.setRow g (agi zs))) :
    if Region.wanted o (yielded ops a.tmps) = true then Oper.wp Tryd.prog o a w K Q else E := by
  have hw : Region.wanted o (yielded ops a.tmps) = true := by simp [Region.wanted, hgd]
  rw [if_pos hw]
  have hrun := run_copy_row (P := Tryd.prog) w dT sT o.type 3 g off dLen dCap ad sLen sCap (agi xs) t (ints ys) hu infoSz hg (by rw [ints_len]; exact hn)
    (fun j v hv => by
      have hj : j < ys.length := by
        have := (List.getElem?_eq_some_iff.mp hv).1
        rwa [ints_len] at this
      rw [ints_get ys j hj] at hv
      rw [← hv]
      exact hsrc j hj) (by rw [ints_len, agi_size]; exact hfit) (ints_one ys)
  have e : ((agi xs).toList.take off ++ ints ys ++ (agi xs).toList.drop (off + (ints ys).length)).toArray = agi zs := by
    subst hz
    simp [agi, ints, List.map_take, List.map_drop]
  rw [e, ints_len] at hrun
  unfold Oper.wp
  simp [execOp, ho, resolve, invoke, builtin, hd, hs, hrun, Result.andThen]
  exact h

/-- The answer of a function whose one result lies in a block. -/
theorem results_row1 {fn : Func} {p : Tmp} {ty : TypeId} (h : fn.results = #[.cell p ty]) (tmps : Array Value) (w : World) (g : Nat) (t : TypeId) (xs : List Int) (d : TypeDesc) (n : Nat)
    (hp : tmps.getD p undef = .pointer (some ⟨g, 0, none⟩)) (hg : IB w g t xs) (hu : Tryd.prog.underlying ty = some d) (hd : isAggD d = true) (hi : (Tryd.prog.info? ty).map (·.size) = some n) (hl : xs.length = n) :
    (results fn tmps).run Tryd.prog w = .ok (.agg (agi xs)) w := by
  have hp' : tmps[p]?.getD undef = .pointer (some ⟨g, 0, none⟩) := by simpa using hp
  have hr := run_loadVar_row (P := Tryd.prog) w g t ty (agi xs) (0, 0) d hg hu (by cases d <;> first | rfl | (simp [isAggD] at hd)) (by rw [hi, agi_size, hl])
  simp [results, h, hp', asAddr, hr]
end Go.Proofs.YthoiikkjjaldnaaDoor

/- The walks of Fade, the program's and the reference's, and of the law GainFades. -/
namespace Go.Proofs.YthoiikkjjaldnaaDoor
set_option linter.unusedVariables false
set_option linter.unusedSimpArgs false
set_option maxRecDepth 100000
open Go.RowKit

/-- A gain k erased frames later. -/
def fdN (x : Int) : Nat → Int
  | 0 => x
  | k + 1 => fdN x k * 26214 / 32768
theorem fdN_range {x : Int} (h0 : 0 ≤ x) (h1 : x ≤ 32767) (k : Nat) : 0 ≤ fdN x k ∧ fdN x k ≤ 32767 := by
  induction k with
  | zero => exact ⟨h0, h1⟩
  | succ k ih => simp only [fdN]; omega

def fade (g e : Int) : Int := if g < 0 ∨ 5 < e then 0 else fdN (min g 32767) e.toNat
theorem fade_range (g e : Int) : 0 ≤ fade g e ∧ fade g e ≤ 32767 := by
  unfold fade
  split
  · omega
  · exact fdN_range (by omega) (by omega) _

set_option maxHeartbeats 1000000 in
theorem fade_any (g e : Int) (w : World) : Calls Tryd.prog 74 #[.int .i64 g, .int .i64 e] w fun en w' => en = .returned (.int .i64 (fade g e)) ∧ w = w' := by
  by_cases h1 : g < 0
  · have hv : fade g e = 0 := by unfold fade; rw [if_pos (.inl h1)]
    rw [hv]
    have d1 : decide (g < 0) = true := by simpa using h1
    clear hv
    go_enter Tryd.func74, Tryd.ntmps74
    go_wp2
    go_ret
    exact ⟨rfl, rfl⟩
  by_cases h2 : 5 < e
  · have hv : fade g e = 0 := by unfold fade; rw [if_pos (.inr h2)]
    rw [hv]
    have d1 : decide (g < 0) = false := by simpa using h1
    have d2 : decide (6 ≤ e) = true := by simp; omega
    clear hv
    go_enter Tryd.func74, Tryd.ntmps74
    go_wp2
    go_ret
    exact ⟨rfl, rfl⟩
  have hv : fade g e = fdN (min g 32767) e.toNat := by unfold fade; rw [if_neg (by omega)]
  have d1 : decide (g < 0) = false := by simpa using h1
  have d2 : decide (6 ≤ e) = false := by simp; omega
  have h3 : e ≤ 5 := by omega
  clear h2
  rcases (show (g ≤ 32767 ∧ min g 32767 = g) ∨ (32767 < g ∧ min g 32767 = 32767) by omega) with ⟨hg, hm⟩ | ⟨hg, hm⟩
  all_goals
    rw [hm] at hv
    have HV := hid hv
    clear hv hm
    go_enter Tryd.func74, Tryd.ntmps74
    go_wp2
    go_loop [0, 14] (fun gv iv => ∃ (k : Nat) (y : Int), (k = 0 ∨ (k : Int) ≤ e) ∧ iv = .int .i64 k ∧ gv = .int .i64 y ∧ 0 ≤ y ∧ y ≤ 32767 ∧ Hid (y = fdN (min g 32767) k)) (fun _ iv => (e - intOf iv).toNat)
    case atStart => exact ⟨0, _, .inl rfl, rfl, rfl, by omega, by omega, hid (by simp only [fdN]; omega)⟩
    case round =>
      obtain ⟨k, y, hk, rfl, rfl, hy0, hy1, HY⟩ := hrel
      have HS := hid (show fdN (min g 32767) (k + 1) = y * 26214 / 32768 by rw [HY.out]; rfl)
      by_cases hlt : (k : Int) < e
      · go_wp2
        go_round
        case rel => exact ⟨k + 1, y * 26214 / 32768, by omega, by go_num, rfl, by omega, by omega, hid HS.out.symm⟩
        case measure => simp [intOf] <;> omega
      · have HK := hid (show k = e.toNat by omega)
        have HF := hid (show fade g e = y by
          rw [HV.out, HY.out, HK.out]
          congr 1
          omega)
        clear hg
        go_wp2
        go_ret
        exact ⟨by rw [HF.out]; rfl, rfl⟩

end Go.Proofs.YthoiikkjjaldnaaDoor

/- Plain facts on sums. No program in sight. -/
namespace Go.Proofs.YthoiikkjjaldnaaDoor
set_option linter.unusedVariables false
set_option linter.unusedSimpArgs false
set_option maxRecDepth 100000

theorem sumN_zero (n : Nat) : sumN (fun _ => 0) n = 0 := by
  induction n with
  | zero => rfl
  | succ n ih => simp only [sumN]; rw [ih]; rfl
end Go.Proofs.YthoiikkjjaldnaaDoor

/- The walks of the pitch gains: the table's number, or the error. -/
namespace Go.Proofs.YthoiikkjjaldnaaDoor
set_option linter.unusedVariables false
set_option linter.unusedSimpArgs false
set_option maxRecDepth 100000
open Go.RowKit

def gainB (n : Int) : Bool := decide (0 ≤ n ∧ n ≤ 7)
def gainV (n : Int) : Int := if gainB n then gainsL.getD n.toNat 0 else 0
theorem gainB_yes {n : Int} (h1 : 0 ≤ n) (h2 : n ≤ 7) : gainB n = true := by unfold gainB; simp; omega
theorem gainB_no {n : Int} (h : n < 0 ∨ 7 < n) : gainB n = false := by unfold gainB; simp; omega

set_option maxHeartbeats 1000000 in
theorem pitchGain_any (n : Int) (w : World) (T : TabA w 0 gainsL) :
    Calls Tryd.prog 55 #[.int .i64 n] w fun e w' => e = .returned (.tuple #[.int .i64 (gainV n), .int .i64 (errOf (gainB n))]) ∧ w = w' := by
  by_cases h1 : n < 0 ∨ 7 < n
  · rw [show gainV n = 0 from by unfold gainV; rw [gainB_no h1]; rfl, gainB_no h1]
    rcases h1 with h1 | h1
    · go_enter Tryd.func55, Tryd.ntmps55
      go_wp2
      go_ret2
      exact ⟨rfl, rfl⟩
    · have h2 : ¬ n < 0 := by omega
      have h3 : 8 ≤ n := by omega
      go_enter Tryd.func55, Tryd.ntmps55
      go_wp2
      go_ret2
      exact ⟨rfl, rfl⟩
  · obtain ⟨k, rfl⟩ := Int.eq_ofNat_of_zero_le (show 0 ≤ n by omega)
    have hk : k < 8 := by omega
    have hc := T.cell k hk
    rw [show gainV (k : Nat) = gainsL.getD k 0 from by unfold gainV; rw [gainB_yes (by omega) (by omega)]; rfl, gainB_yes (by omega) (by omega)]
    generalize gainsL.getD k 0 = v at *
    clear h1 T
    go_enter Tryd.func55, Tryd.ntmps55
    go_wp2
    go_ret2
    exact ⟨rfl, rfl⟩


end Go.Proofs.YthoiikkjjaldnaaDoor
