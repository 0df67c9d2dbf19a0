/- copy into a row of numbers that is known whole, as a step of a drawing region; an answer that lies in a block. -/
import Derived.Test.YtcfmipobgljbeaaRow
import Derived.Laws.CopyOwn
import Derived.Deep.RegionLaw
namespace Go.Proofs.Ytcfmipobgljbeaa
set_option linter.unusedVariables false
set_option linter.unusedSimpArgs false
set_option maxRecDepth 100000
open Go.RowKit

theorem infoSz : (Try.prog.info? 3).map (·.size) = some 1 := by kernel_rfl

theorem step_copyI {ops : Array Oper} {o : Oper} {a : Act} {w : World} {K : Act → World → Prop} {Q : Exit → Act → World → Prop} {E : Prop} (hgd : o.guard = none) (d s : Operand) (dT sT : TypeId)
    (ho : o.op = .call { callee := .builtin .copy, args := #[d, s], argTypes := #[dT, sT] }) (hu : Try.prog.underlying dT = some (.slice 3))
    (g off dLen dCap : Nat) (ad : Addr) (sLen sCap : Nat) (hd : a.eval d = .slice (some ⟨g, off, none⟩) dLen dCap) (hs : a.eval s = .slice (some ad) sLen sCap)
    (t : TypeId) (xs ys zs : List Int) (hg : IB w g t xs) (hn : ys.length = Nat.min sLen dLen) (hsrc : ∀ j, j < ys.length → w.cell? (ad.add j) = some (.int .i64 (ys.getD j 0)))
    (hfit : off + ys.length ≤ xs.length) (hz : zs = xs.take off ++ ys ++ xs.drop (off + ys.length))
    (h : K (a.put o.dst (goInt ys.length)) (w.setRow g (agi zs))) :
    if Region.wanted o (yielded ops a.tmps) = true then Oper.wp Try.prog o a w K Q else E := by
  have hw : Region.wanted o (yielded ops a.tmps) = true := by simp [Region.wanted, hgd]
  rw [if_pos hw]
  have hrun := run_copy_row (P := Try.prog) w dT sT o.type 3 g off dLen dCap ad sLen sCap (agi xs) t (ints ys) hu infoSz hg (by rw [ints_len]; exact hn)
    (fun j v hv => by
      have hj : j < ys.length := by
        have := (List.getElem?_eq_some_iff.mp hv).1
        rwa [ints_len] at this
      rw [ints_get ys j hj] at hv
      rw [← hv]
      exact hsrc j hj) (by rw [ints_len, agi_size]; exact hfit) (ints_one ys)
  have e : ((agi xs).toList.take off ++ ints ys ++ (agi xs).toList.drop (off + (ints ys).length)).toArray = agi zs := by
    subst hz
    simp [agi, ints, List.map_take, List.map_drop]
  rw [e, ints_len] at hrun
  unfold Oper.wp
  simp [execOp, ho, resolve, invoke, builtin, hd, hs, hrun, Result.andThen]
  exact h

/-- The answer of a function whose one result lies in a block. -/
theorem results_row1 {fn : Func} {p : Tmp} {ty : TypeId} (h : fn.results = #[.cell p ty]) (tmps : Array Value) (w : World) (g : Nat) (t : TypeId) (xs : List Int) (d : TypeDesc) (n : Nat)
    (hp : tmps.getD p undef = .pointer (some ⟨g, 0, none⟩)) (hg : IB w g t xs) (hu : Try.prog.underlying ty = some d) (hd : isAggD d = true) (hi : (Try.prog.info? ty).map (·.size) = some n) (hl : xs.length = n) :
    (results fn tmps).run Try.prog w = .ok (.agg (agi xs)) w := by
  have hp' : tmps[p]?.getD undef = .pointer (some ⟨g, 0, none⟩) := by simpa using hp
  have hr := run_loadVar_row (P := Try.prog) w g t ty (agi xs) (0, 0) d hg hu (by cases d <;> first | rfl | (simp [isAggD] at hd)) (by rw [hi, agi_size, hl])
  simp [results, h, hp', asAddr, hr]
end Go.Proofs.Ytcfmipobgljbeaa
