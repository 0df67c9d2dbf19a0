/- For all sessions that speak and all samples, Encode answers exactly what the document says: the session, the bytes and what will be heard, or the error. Conditions: none but the card's own: the package-level tables that the code reads hold what the program's text lays in them (the card ties that). -/
import Derived.Test.YthoiikkjjaldnaaGreatDoorCards
import Derived.Test.YthoiikkjjaldnaaGreatDoorTie
import Derived.Test.YthoiikkjjaldnaaGreatDoorZ1e00
import Derived.Test.YthoiikkjjaldnaaGreatDoorZ1e02
import Derived.Test.YthoiikkjjaldnaaGreatDoorZ1e0t
import Derived.WalkKit
import Derived.ProofKit
import Derived.OpenShut
import Derived.Carry
import Derived.SizedLaws
import Derived.Stop.Joined
namespace Go.Proofs.YthoiikkjjaldnaaGreatDoor.coderEncodes
open Go.ChangeShapes Go.WideShapes Go.ChangeAt Go.RowKit

theorem own : ownKnob Tryz.prog.godebug = none := by kernel_rfl
theorem laid : laidOutB Tryz.prog = true := by kernel_rfl
theorem cellsI : Tryz.prog.cellsOf 3 = 1 := by kernel_rfl
theorem door_met (os : Os) (args : Array Value) : laidMetH Tryz.prog Rows.coderEncodesRow.laid ((World.doorLaid Tryz.prog 400 os).forCall (fun _ _ => 0) ⟨#[], args, []⟩).memory :=
  laidMetH_of_parts3 (fuel := 8) (laidMet_of_run' 8 (by kernel_rfl) (by kernel_rfl)) (by kernel_rfl) (by kernel_rfl)

theorem of_laid {W : World} (h : laidMetH Tryz.prog Rows.coderEncodesRow.laid W) : TabA W 4 iy ∧ TabA W 2 aY ∧ TabA W 3 fD ∧ TabS W 5 iy ∧ TabS W 0 fD ∧ TabS W 1 aY := by
  rw [MakeChecks.laidMetH_plain _ _ _ (by kernel_rfl)] at h
  obtain ⟨ps, h0, _, _⟩ := h
  obtain ⟨t0, q0, h1⟩ := akc (g := 4) (t := 204) (n := 15) (zs := iy) (by kernel_rfl) (by kernel_rfl) Tryz.underlying204 cellsI (by kernel_rfl) h0
  obtain ⟨t1, q1, h2⟩ := akc (g := 2) (t := 22) (n := 8) (zs := aY) (by kernel_rfl) (by kernel_rfl) Tryz.underlying22 cellsI (by kernel_rfl) h1
  obtain ⟨t2, q2, h3⟩ := akc (g := 3) (t := 22) (n := 8) (zs := fD) (by kernel_rfl) (by kernel_rfl) Tryz.underlying22 cellsI (by kernel_rfl) h2
  obtain ⟨t3, q3, h4⟩ := akd (g := 5) (t := 27) (zs := iy) (by kernel_rfl) (by kernel_rfl) Tryz.underlying27 cellsI h3
  obtain ⟨t4, q4, h5⟩ := akd (g := 0) (t := 27) (zs := fD) (by kernel_rfl) (by kernel_rfl) Tryz.underlying27 cellsI h4
  obtain ⟨t5, q5, h6⟩ := akd (g := 1) (t := 27) (zs := aY) (by kernel_rfl) (by kernel_rfl) Tryz.underlying27 cellsI h5
  exact ⟨t0, t1, t2, t3, t4, t5⟩

set_option maxRecDepth 100000 in
theorem lifted (os : Os) (started : os.Started) (H : Type) (enc : TypeId × Value → H) :
    ReturnsInHanded {} Tryz.checked os 4 .any (fun w args => (Rows.coderEncodesSpec.pre enc Tryz.prog Tryz.f4 [] false w args ∧ laidMetH Tryz.prog Rows.coderEncodesRow.laid w) ∧ sizedMet enc Tryz.prog Tryz.f4 (OpenSpec.ofChange Rows.coderEncodesSpec) false w args)
      (Rows.coderEncodesSpec.post enc Tryz.prog Tryz.f4 false true false false) := by
  refine returnsInHanded_of_change_and (C := Tryz.checked) (X := fun w _ => laidMetH Tryz.prog Rows.coderEncodesRow.laid w) (fun _ _ _ hh h => h.of_heap hh) own started (by kernel_rfl) Tryz.func4
    (ChangeSpec.witness_shaped (enc := enc) (C := Tryz.checked) (os := os) (X := fun w _ => laidMetH Tryz.prog Rows.coderEncodesRow.laid w) false (World.doorLaid Tryz.prog 400 os) #[.agg dH.ag, .slice none 0 0, .bool false] 8 rfl (World.shaped_of_RefB (by kernel_rfl) (by kernel_rfl)) (by kernel_rfl) (by kernel_rfl) (by kernel_rfl) (door_met os _)) ?_
  intro W base args ds gs before hval0 hW hcnd hsz0 hL _
  have hval : ∀ (j : Nat) t v, Tryz.f4.params[j]? = some t → args[j]? = some v → Value.okWide Tryz.prog W .any base t v := hval0
  have hsz : (DataW.weightsEach Tryz.prog (Tryz.f4.params.toList ++ Rows.coderEncodesSpec.plain.varTypes Tryz.prog) (ds ++ gs)).all (· ≤ reachBytes) = true := hsz0
  have hW' := hW
  have hlt : ∀ p ∈ before, p.block < W.heap.size := fun p hp => hW.lt p hp
  obtain ⟨p, q, hA0, hV, rfl, hfz, hnd⟩ := hW
  have hA : DataW.TrodAll enc Tryz.prog W 0 (fun _ => true) true Tryz.f4.params.toList args.toList ds p := hA0
  rw [Tryz.params4] at hA hval hsz
  obtain ⟨v0, vs0, d0, ds0, p0, q0, hargs, rfl, rfl, h0, r0⟩ := trodAll_cons hA
  obtain ⟨v1, vs1, d1, ds1, p1, q1, rfl, rfl, rfl, h1, r1⟩ := trodAll_cons r0
  obtain ⟨v2, vs2, d2, ds2, p2, q2, rfl, rfl, rfl, h2, r2⟩ := trodAll_cons r1
  obtain ⟨rfl, rfl, rfl⟩ := trodAll_nil r2
  obtain rfl : args = #[v0, v1, v2] := by cases args; simp_all
  obtain ⟨rfl, rfl⟩ := trodVars_none hV
  obtain ⟨x0, rfl, hl0, hw0⟩ := akf (hval 0 47 v0 rfl rfl)
  obtain ⟨A1, c1, x1, rfl, hr1, hw1, hl1, hc1⟩ := aka Tryz.underlying27 Tryz.underlying3 (by kernel_rfl) (by kernel_rfl) h1 hsz (j := 1) rfl rfl (akb Tryz.underlying27 (hval 1 27 v1 rfl rfl))
  obtain ⟨x2, rfl⟩ := aj9 Tryz.underlying4 (hval 2 4 v2 rfl rfl)
  clear hval0
  obtain ⟨T0, T1, T2, T3, T4, T5⟩ := of_laid hL
  refine (akg W T0 T1 T2 T3 T4 T5 x0 hl0 hw0 A1 c1 x1 hr1 hw1 hl1 hc1 x2).mono fun e W' ⟨he, hg⟩ => ?_
  subst he
  have hst := acM (ts := [47, 27, 4]) laid hg (fun t ht => by simp only [List.mem_cons, List.not_mem_nil, or_false] at ht; rcases ht with rfl | rfl | rfl <;> exact ⟨by kernel_rfl, of_decide_eq_true (by kernel_rfl)⟩) hA (fun x hx => hlt x (by simpa using hx))
  exact ⟨_, rfl, _, _, _, [], _, [], hW', (trodAll_cons_mk (shut_bool Tryz.underlying4 _) trodAll_mk0), hst, rfl, hg.frame _, fun h => by cases h⟩

theorem said : Rows.CoderEncodesSaid :=
  OpenClaim.holds_of_wide 4 Tryz.f4 rfl rfl rfl rfl rfl rfl rfl ⟨rfl, rfl, rfl, rfl, rfl⟩ rfl rfl rfl rfl rfl (by kernel_rfl) Tryz.func4 (by kernel_rfl)
    (of_decide_eq_true (by kernel_rfl)) (by unfold Func.isWrapper; first | (rw [if_pos (by decide +kernel)]; kernel_rfl) | (rw [if_neg (by decide +kernel)]; exact ⟨rfl, rfl⟩))
    (fun os started H enc _ => lifted os started H enc)

theorem plain (f : FuncId) (fn : Func) (hf : Tryz.pinned.checked.prog.funcNamed "voxsat/voxsatlaw.CoderEncodes" = some f) (hfn : Tryz.pinned.checked.prog.funcs[f]? = some fn) :
    false = Tryz.pinned.checked.prog.looks [] ∧ ∀ (j : Nat) t, fn.params[j]? = some t → Tryz.pinned.checked.prog.wantsStandIn t = false := by
  obtain rfl : f = 4 := Option.some.inj ((show Tryz.prog.funcNamed "voxsat/voxsatlaw.CoderEncodes" = some 4 by kernel_rfl).symm.trans hf) |>.symm
  obtain rfl : fn = Tryz.f4 := (Option.some.inj (Tryz.func4.symm.trans hfn)).symm
  refine ⟨by kernel_rfl, fun j t ht => ?_⟩
  rw [Tryz.params4] at ht
  have hm : t ∈ ([47, 27, 4] : List Nat) := by simpa using Array.mem_of_getElem? ht
  have hall : (([47, 27, 4] : List Nat).all fun u => !Tryz.prog.wantsStandIn u) = true := by kernel_rfl
  exact (show Tryz.prog.wantsStandIn t = false by simpa using List.all_eq_true.1 hall t hm)

/-- The card: the statement. -/
theorem proved : Rows.CoderEncodesCardSaid :=
  Claim7.holds_tied_plain_at .later [] _ _ _ _ said (fun _ h => by cases h) (by kernel_rfl) (fun _ h => by cases h) coderEncodes_row_tie rfl ⟨rfl, rfl⟩ (by kernel_rfl) rfl plain (by kernel_rfl)
end Go.Proofs.YthoiikkjjaldnaaGreatDoor.coderEncodes
