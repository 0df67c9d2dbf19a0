/- The walks that the law PulsesAlls rests on, in one text. -/
import Derived.Test.YtcfmipobgljbeaaSearW
import Derived.Test.YtcfmipobgljbeaaPush
import Derived.Test.YtcfmipobgljbeaaBofR
import Derived.Test.YtcfmipobgljbeaaSliceW
import Derived.Test.YtcfmipobgljbeaaSumM
import Derived.Test.YtcfmipobgljbeaaRow
import Derived.Test.YtcfmipobgljbeaaLpcM
import Derived.Test.YtcfmipobgljbeaaBigRd
import Derived.RegionTactic
import Derived.Test.YtcfmipobgljbeaaBigSubO
import Derived.Test.YtcfmipobgljbeaaBigICmp
import Derived.Test.YtcfmipobgljbeaaBigIAdd
import Derived.Deep.RegionWith
import Derived.Test.YtcfmipobgljbeaaRefClip
import Derived.BigQuiet
import Derived.Laws.StructEq
import Derived.Test.YtcfmipobgljbeaaDown
import Derived.Laws.CopyOwn
import Derived.Deep.RegionLaw
import Derived.Test.YtcfmipobgljbeaaCopyI
import Derived.Test.YtcfmipobgljbeaaMakeI
import Derived.Test.YtcfmipobgljbeaaPastM
import Derived.Deep.RegionHeld3
import Derived.Deep.MidRow
import Derived.Test.YtcfmipobgljbeaaScoR
/- The walks of package pulses' All and Few. -/
namespace Go.Proofs.Ytcfmipobgljbeaa
set_option linter.unusedVariables false
set_option linter.unusedSimpArgs false
set_option maxRecDepth 100000
open Go.RowKit

theorem seX_len {d ring x : List Int} (h : x.length = 4) : (seX d ring x).length = 4 := by
  unfold seX
  split
  · exact h
  · rfl
theorem bestL_len {d ring : List Int} {l : List (List Int)} (h : ∀ x ∈ l, Ix x) : (bestL d ring l).at_.length = 4 := (bestL_ix (s := bst0) ix_Z4 h).1

set_option maxHeartbeats 2000000 in
theorem pulsesAll_any (A A2 : Option Addr) (c c2 n1 n2 : Nat) (d ring : List Int) (w : World) (hd : Rs w w.heap.size A d) (hr : Rs w w.heap.size A2 ring) (l1 : d.length = n1) (l2 : ring.length = n2) (dw : W64 d) (rw_ : W64 ring) :
    Calls Try.prog 20 #[.slice A n1 c, .slice A2 n2 c2] w (SeAns d ring (bestL d ring (allL 10000)).at_ w) := by
  have hR := results_row3 (fn := Try.f20) (p := 4) (q := 5) (r := 6) (ty := 29) rfl
  have B0 := hid ((Below.refl w.heap.size w).alloc (Nat.le_refl _) (.cells (agi Z4) 29))
  have Z0 := hid (IB.new w 29 Z4)
  rw [show agi Z4 = #[.int .i64 0, .int .i64 0, .int .i64 0, .int .i64 0] from rfl] at B0 Z0
  obtain ⟨V, hV⟩ : ∃ V, V = w.alloc (.cells #[.int .i64 0, .int .i64 0, .int .i64 0, .int .i64 0] 29) := ⟨_, rfl⟩
  rw [← hV] at B0 Z0
  have HV := hid hV
  have KS := hid (searchAll_any A A2 c c2 n1 n2 d ring (allL 10000) V ((hd.below B0.out).more B0.out.size) ((hr.below B0.out).more B0.out.size) l1 l2 rw_ (allL_ix (Nat.le_refl _)) (fun hl g gd gt L s0 W _ _ S hT hs h64 => allWalk_any g gd gt c A L d ring s0 W S hl dw hT hs h64))
  have XL := hid (seX_len (d := d) (ring := ring) (bestL_len (d := d) (ring := ring) (allL_ix (n := 10000) (Nat.le_refl _))))
  unfold SeAns at KS ⊢
  clear hd hr l1 l2 dw rw_ hV
  generalize seX d ring (bestL d ring (allL 10000)).at_ = X at *
  generalize seS d ring (bestL d ring (allL 10000)).at_ = sv at *
  generalize seErr d ring = er at *
  go_enter Try.func20, Try.ntmps20
  go_wp2_with fail
  rw [← HV.out]
  refine KS.out.mono ?_
  rintro e w1 ⟨rfl, hB⟩
  have Z1 := hid (Blk.below' Z0.out hB)
  have B1 := hid (B0.out.trans (hB.mono B0.out.size))
  have RF := hid (IB.setRow Z1.out X)
  have BF := hid (below_setRow B1.out (Nat.le_refl _) (agi X))
  clear hB B0 Z0
  go_wp2_with (refine wpList_storeI rfl 29 (.tmp 4) (.tmp 10) rfl _ 29 Z4 X 4 rfl rfl Z1.out size4i rfl XL.out ?_)
  refine bodyPost_ret (v := _) (hR _ _ _ 29 X _ 4 rfl RF.out Try.underlying29 rfl size4i XL.out) rfl ?_
  exact ⟨rfl, BF.out⟩

set_option maxHeartbeats 8000000 in
theorem pulsesFew_any (A A2 : Option Addr) (c c2 n1 n2 : Nat) (d ring : List Int) (w : World) (hd : Rs w w.heap.size A d) (hr : Rs w w.heap.size A2 ring) (l1 : d.length = n1) (l2 : ring.length = n2) (dw : W64 d) (rw_ : W64 ring) :
    Calls Try.prog 18 #[.slice A n1 c, .slice A2 n2 c2] w (SeAns d ring (fewN d ring 8) w) := by
  have hR := results_row3 (fn := Try.f18) (p := 4) (q := 5) (r := 6) (ty := 29) rfl
  have hmf : ∀ (fn : Fn) (first cap : Array Value) (w : World), (Instr.makeFunc fn first cap).run Try.prog w = .ok (.func fn first cap) w := fun _ _ _ _ => rfl
  have B0 := ((Below.refl w.heap.size w).alloc (Nat.le_refl _) (.cells (agi Z4) 29)).alloc (by simp) (.cells (agi Z4) 29)
  have Z0 := Blk.alloc (IB.new w 29 Z4) (.cells (agi Z4) 29)
  have N0 := IB.new (w.alloc (.cells (agi Z4) 29)) 29 Z4
  simp only [World.size_alloc] at N0
  rw [show agi Z4 = #[.int .i64 0, .int .i64 0, .int .i64 0, .int .i64 0] from rfl] at B0 Z0 N0
  obtain ⟨V, hV⟩ : ∃ V, V = (w.alloc (.cells #[.int .i64 0, .int .i64 0, .int .i64 0, .int .i64 0] 29)).alloc (.cells #[.int .i64 0, .int .i64 0, .int .i64 0, .int .i64 0] 29) := ⟨_, rfl⟩
  rw [← hV] at B0 Z0 N0
  have HV := hid hV
  have B0 := hid B0
  have Z0 := hid (show IB V w.heap.size 29 Z4 from Z0)
  have N0 := hid N0
  have HD := hid hd
  have HR := hid hr
  have KS := hid (fun (W : World) (h1 : Rs W W.heap.size A d) (h2 : Rs W W.heap.size A2 ring) (now : List Int) (hn : Ix now) (t : Nat) (ht : t < 4) (gn gq : Nat) (bn : IB W gn 29 now) (bq : Blk W gq 3 #[.int .i64 (t : Nat)]) =>
    show Calls Try.prog 50 #[.slice A n1 c, .slice A2 n2 c2, .func (.func 51) #[] #[.pointer (some ⟨gn, 0, none⟩), .pointer (some ⟨gq, 0, none⟩)]] W (SeAns d ring (bestL d ring (fewL now t 10)).at_ W) from
    searchFew_any A A2 c c2 n1 n2 d ring (fewL now t 10) _ _ W h1 h2 l1 l2 rw_ (fewL_ix hn t (Nat.le_refl _)) (fun hl g gd gt L s0 W' hB hg S hT hs h64 => fewWalk_any g gd gt gn gq c t A L d ring now s0 W' S hl dw hT hs h64 (Blk.below' bn hB) (Blk.below' bq hB) (Nat.lt_of_lt_of_le (Blk.lt bn) hg) (Nat.lt_of_lt_of_le (Blk.lt bq) hg) hn ht))
  have KSG := hid (fun (he : seErr d ring = 0) (W : World) (h : Rs W W.heap.size A d) (x : List Int) (hx : Ix x) => show Calls Try.prog 52 #[.slice A n1 c, .agg (agi x)] W (fun e w' => e = .returned (.int .i64 (sgnB d x 4)) ∧ Below W.heap.size W w') from by
    have h40 : n1 = 40 := by
      rw [← l1]
      refine Classical.byContradiction fun hc => ?_
      rw [seErr_len (fun h => hc h.1)] at he
      cases he
    subst h40
    exact signs_any A c d x W h l1 hx)
  clear hd hr l1 l2 dw rw_ hV
  rename_i B0r Z0r N0r
  clear B0r Z0r N0r
  go_enter Try.func18, Try.ntmps18
  go_wp2
  rw [← HV.out]
  go_loopw [12] (fun jv wr => ∃ j : Nat, j ≤ 2 ∧ jv = .int .i64 j ∧ Hid (IB wr w.heap.size 29 Z4) ∧ Hid (IB wr (w.heap.size + 1) 29 (fewN d ring (4 * j))) ∧ Hid (0 < j → seErr d ring = 0) ∧ Hid (Below w.heap.size w wr)) (fun jv _ => 2 - (intOf jv).toNat)
  case atStart => exact ⟨0, by omega, rfl, Z0, N0, hid (fun h => by omega), B0⟩
  case round =>
    clear Z0 N0
    obtain ⟨j, hj, rfl, HZ, HN, HE, HB⟩ := hrel
    obtain ⟨wo, rfl⟩ : ∃ wo : World, wo = wr := ⟨_, rfl⟩
    by_cases hlt : j < 2
    · have hdec : decide ((j : Int) < 2) = true := by simp; omega
      go_wp2
      go_loopw [14] (fun tv wr => ∃ t : Nat, t ≤ 4 ∧ tv = .int .i64 t ∧ Hid (IB wr w.heap.size 29 Z4) ∧ Hid (IB wr (w.heap.size + 1) 29 (fewN d ring (4 * j + t))) ∧ Hid (0 < j ∨ 0 < t → seErr d ring = 0) ∧ Hid (Below w.heap.size w wr)) (fun tv _ => 4 - (intOf tv).toNat)
      case atStart => exact ⟨0, by omega, rfl, HZ, HN, hid (fun h => HE.out (by omega)), HB⟩
      case round =>
        clear HZ HN HE HB
        obtain ⟨t, ht, rfl, HZ, HN, HE, HB⟩ := hrel
        by_cases hlt4 : t < 4
        · have hL := (Below.refl wr.heap.size wr).alloc (Nat.le_refl _) (.cells #[.int .i64 (t : Nat)] 3)
          have Z1 := hid (show IB (wr.alloc (.cells #[.int .i64 (t : Nat)] 3)) w.heap.size 29 Z4 from Blk.below' HZ.out hL)
          have N1 := hid (show IB (wr.alloc (.cells #[.int .i64 (t : Nat)] 3)) (w.heap.size + 1) 29 (fewN d ring (4 * j + t)) from Blk.below' HN.out hL)
          have B1 := hid (HB.out.trans (hL.mono HB.out.size))
          have Q1 := hid (Blk.new wr 3 #[.int .i64 (t : Nat)])
          have NX := hid (show fewN d ring (4 * j + (t + 1)) = (bestL d ring (fewL (fewN d ring (4 * j + t)) t 10)).at_ from by
            rw [show 4 * j + (t + 1) = (4 * j + t) + 1 by omega, fewN, show (4 * j + t) % 4 = t by omega])
          have NL := hid (fewN_ix d ring (4 * j + (t + 1)))
          have KS1 := hid (fun (W : World) (h1 : Rs W W.heap.size A d) (h2 : Rs W W.heap.size A2 ring) (gn gq : Nat) bn bq => KS.out W h1 h2 (fewN d ring (4 * j + t)) (fewN_ix d ring _) t hlt4 gn gq bn bq)
          unfold SeAns seX seS at KS1
          rw [← NX.out] at KS1
          have hdt : decide ((t : Int) < 4) = true := by simp; omega
          obtain ⟨nx, hnx⟩ : ∃ nx, nx = fewN d ring (4 * j + (t + 1)) := ⟨_, rfl⟩
          rw [← hnx] at KS1 NL
          have NXE := hid hnx
          clear hnx NX
          have NI := hid (fewN_ix d ring (4 * j + t))
          generalize fewN d ring (4 * j + t) = now at *
          have KS2 := hid (KS1.out _ ((HD.out.below B1.out).more B1.out.size) ((HR.out.below B1.out).more B1.out.size) (w.heap.size + 1) wr.heap.size N1.out Q1.out)
          clear KS1 HZ HN HB
          go_wp2_with fail
          refine KS2.out.mono ?_
          rintro e w1 ⟨rfl, hB⟩
          have Z2 := hid (Blk.below' Z1.out hB)
          have N2 := hid (Blk.below' N1.out hB)
          have B2 := hid (B1.out.trans (hB.mono B1.out.size))
          clear hB KS2 Z1 N1 B1 Q1
          have hL := (Below.refl w1.heap.size w1).alloc (Nat.le_refl _) (.cells (agi Z4) 29)
          by_cases he : seErr d ring = 0
          · rw [if_pos he]
            have HE2 := hid (show 0 < j ∨ 0 < t + 1 → seErr d ring = 0 from fun _ => he)
            have FIN := hid (show fewN d ring 8 = fewN d ring 8 from rfl)
            rw [if_pos he]
            rw [he]
            have X1 := hid (IB.setRow (IB.new w1 29 Z4) nx)
            have Z3 := hid (show IB ((w1.alloc (.cells (agi Z4) 29)).setRow w1.heap.size (agi nx)) w.heap.size 29 Z4 from Blk.rowFar (Blk.below' Z2.out hL) (by have := Blk.lt Z2.out; omega))
            have N3 := hid (show IB ((w1.alloc (.cells (agi Z4) 29)).setRow w1.heap.size (agi nx)) (w.heap.size + 1) 29 now from Blk.rowFar (Blk.below' N2.out hL) (by have := Blk.lt N2.out; omega))
            have B3 := hid (below_setRow (B2.out.trans (hL.mono B2.out.size)) (g := w1.heap.size) B2.out.size (agi nx))
            obtain ⟨w3, hw3⟩ : ∃ w3, w3 = (w1.alloc (.cells (agi Z4) 29)).setRow w1.heap.size (agi nx) := ⟨_, rfl⟩
            rw [← hw3] at X1 Z3 N3 B3
            rw [show agi Z4 = #[.int .i64 0, .int .i64 0, .int .i64 0, .int .i64 0] from rfl] at hw3
            have HW3 := hid hw3
            have Z4' := hid (show IB (w3.setRow (w.heap.size + 1) (agi nx)) w.heap.size 29 Z4 from Blk.rowFar Z3.out (by omega))
            have N4 := hid (show IB (w3.setRow (w.heap.size + 1) (agi nx)) (w.heap.size + 1) 29 nx from IB.setRow N3.out nx)
            have B4 := hid (below_setRow B3.out (g := w.heap.size + 1) (by omega) (agi nx))
            clear Z2 N2 B2 hw3 hL HE
            go_wp2_with (first
              | (refine wpList_storeI rfl 29 (.tmp 9) (.tmp 22) rfl _ 29 Z4 nx 4 rfl rfl (IB.new w1 _ Z4) size4i rfl NL.out.1 ?_; rw [← HW3.out])
              | (refine wpList_loadI rfl 29 (.tmp 9) rfl _ 29 nx 4 _ rfl X1.out Try.underlying29 rfl size4i NL.out.1 ?_)
              | (refine wpList_storeI rfl 29 (.tmp 7) (.tmp 29) rfl _ 29 now nx 4 rfl rfl N3.out size4i NI.out.1 NL.out.1 ?_))
            go_roundw
            case rel => exact ⟨t + 1, by omega, by go_num, Z4', by rw [← NXE.out]; exact N4, HE2, B4⟩
            case measure => simp [intOf] <;> omega
          · rw [if_neg he, if_neg he]
            have FB := hid (fun w' (hB : Below w.heap.size w w') => SeAns.bad (x := fewN d ring 8) (d := d) (ring := ring) rfl he hB)
            obtain ⟨er, her⟩ : ∃ er, er = seErr d ring := ⟨_, rfl⟩
            rw [← her] at FB he ⊢
            have hne : (er != 0) = true := by simpa using he
            clear her
            have Z3 := hid (show IB ((w1.alloc (.cells (agi Z4) 29)).setRow w1.heap.size (agi Z4)) w.heap.size 29 Z4 from Blk.rowFar (Blk.below' Z2.out hL) (by have := Blk.lt Z2.out; omega))
            have B3 := hid (below_setRow (B2.out.trans (hL.mono B2.out.size)) (g := w1.heap.size) B2.out.size (agi Z4))
            obtain ⟨w3, hw3⟩ : ∃ w3, w3 = (w1.alloc (.cells (agi Z4) 29)).setRow w1.heap.size (agi Z4) := ⟨_, rfl⟩
            rw [← hw3] at Z3 B3
            rw [show (w1.alloc (.cells (agi Z4) 29)) = (w1.alloc (.cells #[.int .i64 0, .int .i64 0, .int .i64 0, .int .i64 0] 29)) from rfl] at hw3
            have HW3 := hid hw3
            have RF := hid (IB.setRow Z3.out Z4)
            have BF := hid (below_setRow B3.out (g := w.heap.size) (Nat.le_refl _) (agi Z4))
            clear Z2 N2 B2 hw3 hL HE he NL NXE KSG KS
            go_wp2_with (first
              | (refine wpList_storeI rfl 29 (.tmp 9) (.tmp 22) rfl _ 29 Z4 Z4 4 rfl rfl (IB.new w1 _ Z4) size4i rfl rfl ?_; rw [← HW3.out])
              | (refine wpList_storeI rfl 29 (.tmp 4) (.tmp 27) rfl _ 29 Z4 Z4 4 rfl rfl Z3.out size4i rfl rfl ?_))
            refine bodyPost_ret (v := _) (hR _ _ _ 29 Z4 _ 4 rfl RF.out Try.underlying29 rfl size4i rfl) rfl ?_
            exact FB.out _ BF.out
        · obtain rfl : t = 4 := by omega
          have NN := hid (show IB wr (w.heap.size + 1) 29 (fewN d ring (4 * (j + 1))) from by rw [show 4 * (j + 1) = 4 * j + 4 by omega]; exact HN.out)
          have HE3 := hid (show 0 < j + 1 → seErr d ring = 0 from fun _ => HE.out (.inr (by omega)))
          go_wp2
          go_roundw
          case rel => exact ⟨j + 1, by omega, by go_num, HZ, NN, HE3, HB⟩
          case measure => simp [intOf] <;> omega
    · obtain rfl : j = 2 := by omega
      have E0 := hid (HE.out (by omega))
      have J3' := HN.out
      rw [show 4 * 2 = 8 from rfl] at J3'
      have IXN := fewN_ix d ring 8
      have KSG1 := KSG.out E0.out wo.drew (show Rs wo.drew wo.drew.heap.size A d from (HD.out.below HB.out).more HB.out.size)
      obtain ⟨P, hP⟩ : ∃ P, P = SeAns d ring (fewN d ring 8) w := ⟨_, rfl⟩
      have FG := fun w' (hB : Below w.heap.size w w') => show P (.returned (.tuple #[.agg (agi (fewN d ring 8)), .int .i64 (sgnB d (fewN d ring 8) 4), .int .i64 0])) w' from by rw [hP]; exact SeAns.good (x := fewN d ring 8) E0.out hB
      have HP := hid hP
      clear hP KS KSG HE HN hlt hj
      have KSG2 := KSG1 (fewN d ring 8) IXN
      clear KSG1
      obtain ⟨xs, hxs⟩ : ∃ xs, xs = fewN d ring 8 := ⟨_, rfl⟩
      have HXS := hid hxs
      rw [← hxs] at J3' IXN KSG2 FG
      clear hxs
      obtain ⟨x0, x1, x2, x3, rfl⟩ := list4 IXN.1
      have FG := hid FG
      have J3 := hid J3'
      generalize sgnB d [x0, x1, x2, x3] 4 = sv at *
      have KS1 := hid (show Calls Try.prog 52 #[.slice A n1 c, .agg #[.int .i64 x0, .int .i64 x1, .int .i64 x2, .int .i64 x3]] wo.drew (fun e w' => e = .returned (.int .i64 sv) ∧ Below wo.drew.heap.size wo.drew w') from KSG2)
      rename_i FGr
      clear FGr KSG2 IXN
      have k0 : World.cell? wo ⟨w.heap.size + 1, 0, none⟩ = some (.int .i64 x0) := IB.cell J3' 0 (by first | decide | simp); have k1 : World.cell? wo ⟨w.heap.size + 1, 1, none⟩ = some (.int .i64 x1) := IB.cell J3' 1 (by first | decide | simp); have k2 : World.cell? wo ⟨w.heap.size + 1, 2, none⟩ = some (.int .i64 x2) := IB.cell J3' 2 (by first | decide | simp); have k3 : World.cell? wo ⟨w.heap.size + 1, 3, none⟩ = some (.int .i64 x3) := IB.cell J3' 3 (by first | decide | simp)
      clear J3'
      go_wp2
      go_region_held3 (fun w' => w'.cell? ⟨w.heap.size + 1, 0, none⟩ = some (.int .i64 x0) ∧ w'.cell? ⟨w.heap.size + 1, 1, none⟩ = some (.int .i64 x1) ∧ w'.cell? ⟨w.heap.size + 1, 2, none⟩ = some (.int .i64 x2) ∧ w'.cell? ⟨w.heap.size + 1, 3, none⟩ = some (.int .i64 x3)) (go_keep) (first
        | (go_at_call 52; (with_reducible refine KS1.out.mono ?_); rintro e w3 ⟨rfl, hB⟩; have J4 : IB w3 (w.heap.size + 1) 29 [x0, x1, x2, x3] := Blk.below' (Blk.drew J3.out) hB; have Z4' : IB w3 w.heap.size 29 Z4 := Blk.below' (Blk.drew HZ.out) hB; have B4 := hid (show Below w.heap.size w w3 from HB.out.drew.trans (hB.mono HB.out.size)); have l0 : World.cell? w3 ⟨w.heap.size + 1, 0, none⟩ = some (.int .i64 x0) := IB.cell J4 0 (by first | decide | simp); have l1 : World.cell? w3 ⟨w.heap.size + 1, 1, none⟩ = some (.int .i64 x1) := IB.cell J4 1 (by first | decide | simp); have l2 : World.cell? w3 ⟨w.heap.size + 1, 2, none⟩ = some (.int .i64 x2) := IB.cell J4 2 (by first | decide | simp); have l3 : World.cell? w3 ⟨w.heap.size + 1, 3, none⟩ = some (.int .i64 x3) := IB.cell J4 3 (by first | decide | simp); have z0 : World.cell? w3 ⟨w.heap.size, 0, none⟩ = some (.int .i64 0) := IB.cell Z4' 0 (by first | decide | simp); have z1 : World.cell? w3 ⟨w.heap.size, 1, none⟩ = some (.int .i64 0) := IB.cell Z4' 1 (by first | decide | simp); have z2 : World.cell? w3 ⟨w.heap.size, 2, none⟩ = some (.int .i64 0) := IB.cell Z4' 2 (by first | decide | simp); have z3 : World.cell? w3 ⟨w.heap.size, 3, none⟩ = some (.int .i64 0) := IB.cell Z4' 3 (by first | decide | simp); have y0 : World.frozen? w3 ⟨w.heap.size, 0, none⟩ = false := Blk.frozen Z4' 0; have y1 : World.frozen? w3 ⟨w.heap.size, 1, none⟩ = false := Blk.frozen Z4' 1; have y2 : World.frozen? w3 ⟨w.heap.size, 2, none⟩ = false := Blk.frozen Z4' 2; have y3 : World.frozen? w3 ⟨w.heap.size, 3, none⟩ = false := Blk.frozen Z4' 3; have J4 := hid J4; have Z5 := hid Z4'; clear hB Z4'))
      rename_i hHeldZ
      clear hHeldZ
      clear k0 k1 k2 k3 l0 l1 l2 l3 z0 z1 z2 z3 y0 y1 y2 y3
      simp only [Exit.then]
      have RF := hid (show IB ((((w3.setCell ⟨w.heap.size, 0, none⟩ (.int .i64 x0)).setCell ⟨w.heap.size, 1, none⟩ (.int .i64 x1)).setCell ⟨w.heap.size, 2, none⟩ (.int .i64 x2)).setCell ⟨w.heap.size, 3, none⟩ (.int .i64 x3)) w.heap.size 29 [x0, x1, x2, x3] from IB.set_ (IB.set_ (IB.set_ (IB.set_ Z5.out 0 x0) 1 x1) 2 x2) 3 x3)
      have BF := hid (show Below w.heap.size w ((((w3.setCell ⟨w.heap.size, 0, none⟩ (.int .i64 x0)).setCell ⟨w.heap.size, 1, none⟩ (.int .i64 x1)).setCell ⟨w.heap.size, 2, none⟩ (.int .i64 x2)).setCell ⟨w.heap.size, 3, none⟩ (.int .i64 x3)) from (((B4.out.setCell (p := ⟨w.heap.size, 0, none⟩) (Nat.le_refl _) _).setCell (p := ⟨w.heap.size, 1, none⟩) (Nat.le_refl _) _).setCell (p := ⟨w.heap.size, 2, none⟩) (Nat.le_refl _) _).setCell (p := ⟨w.heap.size, 3, none⟩) (Nat.le_refl _) _)
      go_wp2
      refine bodyPost_ret (v := _) (hR _ _ _ 29 [x0, x1, x2, x3] _ 4 rfl RF.out Try.underlying29 rfl size4i rfl) rfl ?_
      have := FG.out _ BF.out
      rw [HP.out] at this
      exact this
end Go.Proofs.Ytcfmipobgljbeaa

/- append, the length as it is written. -/
namespace Go.Proofs.Ytcfmipobgljbeaa
set_option linter.unusedVariables false
set_option linter.unusedSimpArgs false
set_option maxRecDepth 100000
open Go.RowKit

theorem wpList_pushN {ops : Array Oper} {rest : List Oper} {o : Oper} {a : Act} {w : World} {Q : Exit → Act → World → Prop} (hgd : o.guard = none) (s x : Operand)
    (ho : o.op = .call { callee := .builtin .append, args := #[s, x], argTypes := #[22, 22] })
    (base : Nat) (A : Option Addr) (c n : Nat) (xs : List Int) (hs : a.eval s = .slice A n c) (hn : xs.length = n) (hown : Own w base A c xs)
    (ad : Addr) (y : Int) (hx : a.eval x = .slice (some ad) 1 1) (hc : w.cell? ad = some (.int .i64 y)) (hlen : n + 1 ≤ 17592186044416) (hbase : base ≤ w.heap.size)
    (h : ∀ A' c' w', Own w' base A' c' (xs ++ [y]) → w.grownBy w' (A.map (·.block)) → (A' = A ∨ ∃ g, A' = some ⟨g, 0, none⟩ ∧ w.heap.size ≤ g) → wpList Try.prog ops Q rest (a.put o.dst (.slice A' (n + 1) c')) w') : wpList Try.prog ops Q (o :: rest) a w := by
  subst hn
  exact wpList_push hgd s x ho base A c xs hs hown ad y hx hc hlen hbase h
theorem wpList_catN {ops : Array Oper} {rest : List Oper} {o : Oper} {a : Act} {w : World} {Q : Exit → Act → World → Prop} (hgd : o.guard = none) (s x : Operand)
    (ho : o.op = .call { callee := .builtin .append, args := #[s, x], argTypes := #[22, 22] })
    (base : Nat) (A : Option Addr) (c n : Nat) (xs : List Int) (hs : a.eval s = .slice A n c) (hn : xs.length = n) (hown : Own w base A c xs)
    (B : Nat) (A2 : Option Addr) (c2 m : Nat) (ys : List Int) (hx : a.eval x = .slice A2 m c2) (hm : ys.length = m) (hr : Rs w B A2 ys) (hlen : n + m ≤ 17592186044416) (hbase : base ≤ w.heap.size)
    (h : ∀ A' c' w', Own w' base A' c' (xs ++ ys) → w.grownBy w' (A.map (·.block)) → (A' = A ∨ ∃ g, A' = some ⟨g, 0, none⟩ ∧ w.heap.size ≤ g) → wpList Try.prog ops Q rest (a.put o.dst (.slice A' (n + m) c')) w') : wpList Try.prog ops Q (o :: rest) a w := by
  subst hn
  subst hm
  exact wpList_cat hgd s x ho base A c xs hs hown B A2 c2 ys hx hr hlen hbase h

/-- What lies below the row's base is as it was. -/
theorem below_grown {a w w' : World} {base : Nat} {A : Option Addr} {c : Nat} {xs : List Int} (hB : Below base a w) (hO : Own w base A c xs) (hG : w.grownBy w' (A.map (·.block))) (hb : base ≤ w.heap.size) : Below base a w' :=
  hB.grown hG hb (fun k hk => by
    cases A with
    | none => cases hk
    | some ad => simp at hk; subst hk; exact (hO.lt ad rfl).1)
/-- A block that is not the row's stays. -/
theorem Blk.grownA {w w' : World} {g : Nat} {t : TypeId} {cs : Array Value} {A : Option Addr} (h : Blk w g t cs) (hG : w.grownBy w' (A.map (·.block))) (hne : ∀ ad, A = some ad → ad.block ≠ g) : Blk w' g t cs :=
  Blk.grown h hG (fun e => by
    cases A with
    | none => cases e
    | some ad => simp at e; exact hne ad rfl e.symm)
/-- Where a row has moved to, it is not an elder block. -/
theorem moved_ne {w : World} {A A' : Option Addr} {g : Nat} (h : A' = A ∨ ∃ g', A' = some ⟨g', 0, none⟩ ∧ w.heap.size ≤ g') (hne : ∀ ad, A = some ad → ad.block ≠ g) (hg : g < w.heap.size) : ∀ ad, A' = some ad → ad.block ≠ g := by
  rcases h with rfl | ⟨g', rfl, hg'⟩
  · exact hne
  · intro ad had
    injection had with had
    subst had
    show g' ≠ g
    omega
end Go.Proofs.Ytcfmipobgljbeaa

/- The walks of the reference's All and Few. -/
namespace Go.Proofs.Ytcfmipobgljbeaa
set_option linter.unusedVariables false
set_option linter.unusedSimpArgs false
set_option maxRecDepth 100000
open Go.RowKit

theorem agi4_ (a b c d : Int) : agi [a, b, c, d] = #[.int .i64 a, .int .i64 b, .int .i64 c, .int .i64 d] := rfl

theorem below_grown4 {a w w' : World} {B base : Nat} {A : Option Addr} {c : Nat} {l : List (List Int)} (hB : Below B a w) (hO : Own4 w base A c l) (hG : w.grownBy w' (A.map (·.block))) (hb : B ≤ w.heap.size) (hbb : B ≤ base) : Below B a w' :=
  hB.grown hG hb (fun k hk => by
    cases A with
    | none => cases hk
    | some ad => simp at hk; subst hk; exact Nat.le_trans hbb (hO.lt ad rfl).1)
set_option maxHeartbeats 8000000 in
theorem refAll_any (A A2 : Option Addr) (c c2 n1 n2 : Nat) (d ring : List Int) (w : World) (hd : Rs w w.heap.size A d) (hr : Rs w w.heap.size A2 ring) (l1 : d.length = n1) (l2 : ring.length = n2) (dw : W64 d) (rw_ : W64 ring) :
    Calls Try.prog 21 #[.slice A n1 c, .slice A2 n2 c2] w (SeAns d ring (bestL d ring (allL 10000)).at_ w) := by
  have hR := results_row3 (fn := Try.f21) (p := 4) (q := 5) (r := 6) (ty := 29) rfl
  have B0 := hid ((Below.refl w.heap.size w).alloc (Nat.le_refl _) (.cells (agi Z4) 29))
  have Z0 := hid (IB.new w 29 Z4)
  rw [show agi Z4 = #[.int .i64 0, .int .i64 0, .int .i64 0, .int .i64 0] from rfl] at B0 Z0
  obtain ⟨V, hV⟩ : ∃ V, V = w.alloc (.cells #[.int .i64 0, .int .i64 0, .int .i64 0, .int .i64 0] 29) := ⟨_, rfl⟩
  rw [← hV] at B0 Z0
  have HV := hid hV
  have LV := hid (show w.heap.size + 1 = V.heap.size by rw [hV]; simp)
  have HD := hid hd
  have HR := hid hr
  have KW := hid (wrongSearch_any A A2 c c2 n1 n2 d ring V ((hd.below B0.out).more B0.out.size) l1 l2)
  clear hV hd hr
  go_enter Try.func21, Try.ntmps21
  go_wp2_with fail
  rw [← HV.out]
  refine KW.out.mono ?_
  rintro e w1 ⟨rfl, rfl⟩
  clear KW
  by_cases he : seErr d ring = 0
  rotate_left
  · have FB := hid (fun w' (hB : Below w.heap.size w w') => SeAns.bad (x := (bestL d ring (allL 10000)).at_) (d := d) (ring := ring) rfl he hB)
    obtain ⟨er, her⟩ : ∃ er, er = seErr d ring := ⟨_, rfl⟩
    rw [← her] at FB he ⊢
    have hne : (er != 0) = true := by simpa using he
    clear her
    have RF := hid (IB.setRow Z0.out Z4)
    have BF := hid (below_setRow B0.out (g := w.heap.size) (Nat.le_refl _) (agi Z4))
    clear he l1 l2 dw rw_
    go_wp2_with (refine wpList_storeI rfl 29 (.tmp 4) (.tmp 16) rfl _ 29 Z4 Z4 4 rfl rfl Z0.out size4i rfl rfl ?_)
    refine bodyPost_ret (v := _) (hR _ _ _ 29 Z4 _ 4 rfl RF.out Try.underlying29 rfl size4i rfl) rfl ?_
    exact FB.out _ BF.out
  have h40 : n1 = 40 ∧ n2 = 40 := by
    refine Classical.byContradiction fun hc => ?_
    rw [seErr_len (by omega)] at he
    cases he
  obtain ⟨rfl, rfl⟩ := h40
  have DL := hid l1
  have E0 := hid he
  have KBO := hid (fun (W : World) (hB : Below w.heap.size w W) (c3 g n : Nat) (l : List (List Int)) (hl : ∀ x ∈ l, Ix x) (hn : l.length = n) (h0 : 0 < n) (hn2 : n ≤ 100000) (h4 : Rs4 W g l) => bestOf_any A A2 c c2 c3 g n d ring l W ((HD.out.below hB).more hB.size) ((HR.out.below hB).more hB.size) l1 l2 dw rw_ hl hn h0 hn2 h4)
  rw [he]
  clear he l1 l2 dw rw_
  go_wp2
  go_loopw [8, 9] (fun lv iv wr => ∃ (k c3 : Nat) (A3 : Option Addr), k ≤ 10000 ∧ iv = .int .i64 k ∧ lv = .slice A3 k c3 ∧ Hid (Own4 wr (w.heap.size + 1) A3 c3 (allL k)) ∧ Hid (IB wr w.heap.size 29 Z4) ∧ Hid (Below w.heap.size w wr)) (fun _ iv _ => 10000 - (intOf iv).toNat)
  case atStart => exact ⟨0, 0, none, by omega, rfl, rfl, hid Own4.nil, Z0, B0⟩
  case round =>
    clear Z0 B0
    obtain ⟨k, c3, A3, hk, rfl, rfl, HO, HZ, HB⟩ := hrel
    by_cases hlt : k < 10000
    · have NL := hid (show allL (k + 1) = allL k ++ [[(k : Int) / 1000, (k : Int) / 100 % 10, (k : Int) / 10 % 10, (k : Int) % 10]] from by rw [allL_snoc]; unfold allX; push_cast; rfl)
      have LL := hid (show (allL k).length = k by simp [allL])
      have hL := (Below.refl wr.heap.size wr).alloc (Nat.le_refl _) (.cells (agi [(k : Int) / 1000, (k : Int) / 100 % 10, (k : Int) / 10 % 10, (k : Int) % 10]) 29)
      have X1 := hid (IB.new wr 29 [(k : Int) / 1000, (k : Int) / 100 % 10, (k : Int) / 10 % 10, (k : Int) % 10])
      have O1 := hid (HO.out.below hL)
      have Z1 := hid (Blk.below' HZ.out hL)
      have B1 := hid (HB.out.trans (hL.mono HB.out.size))
      have SB := hid (show w.heap.size + 1 ≤ (wr.alloc (.cells (agi [(k : Int) / 1000, (k : Int) / 100 % 10, (k : Int) / 10 % 10, (k : Int) % 10]) 29)).heap.size by have := Blk.lt Z1.out; omega)
      rw [agi4_] at X1 O1 Z1 B1 SB
      clear hL HO HZ HB
      generalize allL k = lk at *
      go_wp2_with (at_builtin; refine wpList_push4 rfl (.tmp 22) (.tmp 34) rfl (w.heap.size + 1) A3 c3 k lk rfl LL.out O1.out wr.heap.size [(k : Int) / 1000, (k : Int) / 100 % 10, (k : Int) / 10 % 10, (k : Int) % 10] rfl X1.out rfl (by omega) SB.out ?_; intro A4 c4 w2 hO hG; have O2 := hid hO; have Z2 := hid (show IB w2 w.heap.size 29 Z4 from Blk.grownA Z1.out hG (O1.out.ne_ (by omega))); have B2 := hid (show Below w.heap.size w w2 from below_grown4 B1.out O1.out hG (by have := SB.out; omega) (by omega)); clear hO hG)
      go_roundw
      case rel => exact ⟨k + 1, c4, A4, by omega, by go_num, rfl, by rw [NL.out]; exact O2, Z2, B2⟩
      case measure => simp [intOf] <;> omega
    · obtain rfl : k = 10000 := by omega
      have LL := hid (show (allL 10000).length = 10000 by simp [allL])
      obtain ⟨g, rfl, hR4⟩ := HO.out.reads (by rw [LL.out]; omega)
      have K1 := hid (KBO.out wr HB.out c3 g 10000 (allL 10000) (allL_ix (Nat.le_refl _)) LL.out (by omega) (by omega) hR4)
      have IXX := hid (bestL_ix (d := d) (ring := ring) (s := bst0) (l := allL 10000) ix_Z4 (allL_ix (Nat.le_refl _)))
      have IXY := hid (show Ix (bestL d ring (allL 10000)).at_ from IXX.out)
      clear hR4 KBO IXX HO hlt hk
      go_wp2_with fail
      refine K1.out.mono ?_
      rintro e w2 ⟨rfl, hB⟩
      have B2 := HB.out.trans (hB.mono HB.out.size)
      have Z2 := hid (Blk.below' HZ.out hB)
      have hL := (Below.refl w2.heap.size w2).alloc (Nat.le_refl _) (.cells (agi Z4) 29)
      have JX := hid (IB.setRow (IB.new w2 29 Z4) (bestL d ring (allL 10000)).at_)
      have ZX := hid (show IB ((w2.alloc (.cells (agi Z4) 29)).setRow w2.heap.size (agi (bestL d ring (allL 10000)).at_)) w.heap.size 29 Z4 from Blk.rowFar (Blk.below' Z2.out hL) (by have := Blk.lt Z2.out; omega))
      have BX := hid (below_setRow (B2.trans (hL.mono B2.size)) (g := w2.heap.size) B2.size (agi (bestL d ring (allL 10000)).at_))
      have LGX := hid (show w.heap.size < w2.heap.size from Blk.lt Z2.out)
      obtain ⟨WX, hWX⟩ : ∃ WX, WX = (w2.alloc (.cells (agi Z4) 29)).setRow w2.heap.size (agi (bestL d ring (allL 10000)).at_) := ⟨_, rfl⟩
      rw [← hWX] at JX ZX BX
      rw [show agi Z4 = #[.int .i64 0, .int .i64 0, .int .i64 0, .int .i64 0] from rfl] at hWX
      have HWX := hid hWX
      have IXX := IXY
      clear hB B2 Z2 hL hWX K1 HB HZ IXY
      rename_i IXYr
      go_wp2_with (refine wpList_storeI rfl 29 (.tmp 10) (.tmp 39) rfl _ 29 Z4 (bestL d ring (allL 10000)).at_ 4 rfl rfl (IB.new w2 _ Z4) size4i rfl IXX.out.1 ?_; rw [← HWX.out])
      clear HWX
      obtain ⟨gx, hgx⟩ : ∃ gx, gx = w2.heap.size := ⟨_, rfl⟩
      rw [← hgx] at JX LGX ⊢
      clear hgx
      obtain ⟨P, hP⟩ : ∃ P, P = SeAns d ring (bestL d ring (allL 10000)).at_ w := ⟨_, rfl⟩
      have FG := fun w' (hB : Below w.heap.size w w') => show P (.returned (.tuple #[.agg (agi (bestL d ring (allL 10000)).at_), .int .i64 (sgnB d (bestL d ring (allL 10000)).at_ 4), .int .i64 0])) w' from by rw [hP]; exact SeAns.good (x := (bestL d ring (allL 10000)).at_) E0.out hB
      have HP := hid hP
      have KSG1 := signsOf_any A c d (bestL d ring (allL 10000)).at_ WX.drew (show Rs WX.drew WX.drew.heap.size A d from (HD.out.below BX.out).more BX.out.size) DL.out IXX.out
      have J3' := JX.out
      have IXN := IXX.out
      clear hP
      obtain ⟨xs, hxs⟩ : ∃ xs, xs = (bestL d ring (allL 10000)).at_ := ⟨_, rfl⟩
      have HXS := hid hxs
      rw [← hxs] at J3' IXN KSG1 FG
      clear hxs JX IXX
      obtain ⟨x0, x1, x2, x3, rfl⟩ := list4 IXN.1
      have FG := hid FG
      have J3 := hid J3'
      generalize sgnB d [x0, x1, x2, x3] 4 = sv at *
      have KS1 := hid (show Calls Try.prog 55 #[.slice A 40 c, .agg #[.int .i64 x0, .int .i64 x1, .int .i64 x2, .int .i64 x3]] WX.drew (fun e w' => e = .returned (.int .i64 sv) ∧ Below WX.drew.heap.size WX.drew w') from KSG1)
      rename_i FGr
      clear FGr KSG1 IXN
      have LG1 := LGX.out
      have LG2 : ¬ w.heap.size = gx := by omega
      have LG3 : ¬ gx = w.heap.size := by omega
      have k0 : World.cell? WX ⟨gx, 0, none⟩ = some (.int .i64 x0) := IB.cell J3' 0 (by first | decide | simp); have k1 : World.cell? WX ⟨gx, 1, none⟩ = some (.int .i64 x1) := IB.cell J3' 1 (by first | decide | simp); have k2 : World.cell? WX ⟨gx, 2, none⟩ = some (.int .i64 x2) := IB.cell J3' 2 (by first | decide | simp); have k3 : World.cell? WX ⟨gx, 3, none⟩ = some (.int .i64 x3) := IB.cell J3' 3 (by first | decide | simp)
      clear J3'
      go_wp2
      go_region_held3 (fun w' => w'.cell? ⟨gx, 0, none⟩ = some (.int .i64 x0) ∧ w'.cell? ⟨gx, 1, none⟩ = some (.int .i64 x1) ∧ w'.cell? ⟨gx, 2, none⟩ = some (.int .i64 x2) ∧ w'.cell? ⟨gx, 3, none⟩ = some (.int .i64 x3)) (go_keep) (first
        | (go_at_call 55; (with_reducible refine KS1.out.mono ?_); rintro e w3 ⟨rfl, hB⟩; have J4 : IB w3 gx 29 [x0, x1, x2, x3] := Blk.below' (Blk.drew J3.out) hB; have Z4' : IB w3 w.heap.size 29 Z4 := Blk.below' (Blk.drew ZX.out) hB; have B4 := hid (show Below w.heap.size w w3 from BX.out.drew.trans (hB.mono BX.out.size)); have l0 : World.cell? w3 ⟨gx, 0, none⟩ = some (.int .i64 x0) := IB.cell J4 0 (by first | decide | simp); have l1 : World.cell? w3 ⟨gx, 1, none⟩ = some (.int .i64 x1) := IB.cell J4 1 (by first | decide | simp); have l2 : World.cell? w3 ⟨gx, 2, none⟩ = some (.int .i64 x2) := IB.cell J4 2 (by first | decide | simp); have l3 : World.cell? w3 ⟨gx, 3, none⟩ = some (.int .i64 x3) := IB.cell J4 3 (by first | decide | simp); have z0 : World.cell? w3 ⟨w.heap.size, 0, none⟩ = some (.int .i64 0) := IB.cell Z4' 0 (by first | decide | simp); have z1 : World.cell? w3 ⟨w.heap.size, 1, none⟩ = some (.int .i64 0) := IB.cell Z4' 1 (by first | decide | simp); have z2 : World.cell? w3 ⟨w.heap.size, 2, none⟩ = some (.int .i64 0) := IB.cell Z4' 2 (by first | decide | simp); have z3 : World.cell? w3 ⟨w.heap.size, 3, none⟩ = some (.int .i64 0) := IB.cell Z4' 3 (by first | decide | simp); have y0 : World.frozen? w3 ⟨w.heap.size, 0, none⟩ = false := Blk.frozen Z4' 0; have y1 : World.frozen? w3 ⟨w.heap.size, 1, none⟩ = false := Blk.frozen Z4' 1; have y2 : World.frozen? w3 ⟨w.heap.size, 2, none⟩ = false := Blk.frozen Z4' 2; have y3 : World.frozen? w3 ⟨w.heap.size, 3, none⟩ = false := Blk.frozen Z4' 3; have J4 := hid J4; have Z5 := hid Z4'; clear hB Z4'))
      rename_i hHeldZ
      clear hHeldZ
      clear k0 k1 k2 k3 l0 l1 l2 l3 z0 z1 z2 z3 y0 y1 y2 y3
      simp only [Exit.then]
      have RF := hid (show IB ((((w3.setCell ⟨w.heap.size, 0, none⟩ (.int .i64 x0)).setCell ⟨w.heap.size, 1, none⟩ (.int .i64 x1)).setCell ⟨w.heap.size, 2, none⟩ (.int .i64 x2)).setCell ⟨w.heap.size, 3, none⟩ (.int .i64 x3)) w.heap.size 29 [x0, x1, x2, x3] from IB.set_ (IB.set_ (IB.set_ (IB.set_ Z5.out 0 x0) 1 x1) 2 x2) 3 x3)
      have BF := hid (show Below w.heap.size w ((((w3.setCell ⟨w.heap.size, 0, none⟩ (.int .i64 x0)).setCell ⟨w.heap.size, 1, none⟩ (.int .i64 x1)).setCell ⟨w.heap.size, 2, none⟩ (.int .i64 x2)).setCell ⟨w.heap.size, 3, none⟩ (.int .i64 x3)) from (((B4.out.setCell (p := ⟨w.heap.size, 0, none⟩) (Nat.le_refl _) _).setCell (p := ⟨w.heap.size, 1, none⟩) (Nat.le_refl _) _).setCell (p := ⟨w.heap.size, 2, none⟩) (Nat.le_refl _) _).setCell (p := ⟨w.heap.size, 3, none⟩) (Nat.le_refl _) _)
      go_wp2
      refine bodyPost_ret (v := _) (hR _ _ _ 29 [x0, x1, x2, x3] _ 4 rfl RF.out Try.underlying29 rfl size4i rfl) rfl ?_
      have := FG.out _ BF.out
      rw [HP.out] at this
      exact this
set_option maxHeartbeats 8000000 in
theorem refFew_any (A A2 : Option Addr) (c c2 n1 n2 : Nat) (d ring : List Int) (w : World) (hd : Rs w w.heap.size A d) (hr : Rs w w.heap.size A2 ring) (l1 : d.length = n1) (l2 : ring.length = n2) (dw : W64 d) (rw_ : W64 ring) :
    Calls Try.prog 19 #[.slice A n1 c, .slice A2 n2 c2] w (SeAns d ring (fewN d ring 8) w) := by
  have hR := results_row3 (fn := Try.f19) (p := 4) (q := 5) (r := 6) (ty := 29) rfl
  have B0 := hid ((Below.refl w.heap.size w).alloc (Nat.le_refl _) (.cells (agi Z4) 29))
  have Z0 := hid (IB.new w 29 Z4)
  rw [show agi Z4 = #[.int .i64 0, .int .i64 0, .int .i64 0, .int .i64 0] from rfl] at B0 Z0
  obtain ⟨V, hV⟩ : ∃ V, V = w.alloc (.cells #[.int .i64 0, .int .i64 0, .int .i64 0, .int .i64 0] 29) := ⟨_, rfl⟩
  rw [← hV] at B0 Z0
  have HV := hid hV
  have LV := hid (show w.heap.size + 1 = V.heap.size by rw [hV]; simp)
  have HD := hid hd
  have HR := hid hr
  have KW := hid (wrongSearch_any A A2 c c2 n1 n2 d ring V ((hd.below B0.out).more B0.out.size) l1 l2)
  clear hV hd hr
  go_enter Try.func19, Try.ntmps19
  go_wp2_with fail
  rw [← HV.out]
  refine KW.out.mono ?_
  rintro e w1 ⟨rfl, rfl⟩
  clear KW
  by_cases he : seErr d ring = 0
  rotate_left
  · have FB := hid (fun w' (hB : Below w.heap.size w w') => SeAns.bad (x := (fewN d ring 8)) (d := d) (ring := ring) rfl he hB)
    obtain ⟨er, her⟩ : ∃ er, er = seErr d ring := ⟨_, rfl⟩
    rw [← her] at FB he ⊢
    have hne : (er != 0) = true := by simpa using he
    clear her
    have RF := hid (IB.setRow Z0.out Z4)
    have BF := hid (below_setRow B0.out (g := w.heap.size) (Nat.le_refl _) (agi Z4))
    clear he l1 l2 dw rw_
    go_wp2_with (refine wpList_storeI rfl 29 (.tmp 4) (.tmp 18) rfl _ 29 Z4 Z4 4 rfl rfl Z0.out size4i rfl rfl ?_)
    refine bodyPost_ret (v := _) (hR _ _ _ 29 Z4 _ 4 rfl RF.out Try.underlying29 rfl size4i rfl) rfl ?_
    exact FB.out _ BF.out
  have h40 : n1 = 40 ∧ n2 = 40 := by
    refine Classical.byContradiction fun hc => ?_
    rw [seErr_len (by omega)] at he
    cases he
  obtain ⟨rfl, rfl⟩ := h40
  have DL := hid l1
  have E0 := hid he
  have KBO := hid (fun (W : World) (hB : Below w.heap.size w W) (c3 g n : Nat) (l : List (List Int)) (hl : ∀ x ∈ l, Ix x) (hn : l.length = n) (h0 : 0 < n) (hn2 : n ≤ 100000) (h4 : Rs4 W g l) => bestOf_any A A2 c c2 c3 g n d ring l W ((HD.out.below hB).more hB.size) ((HR.out.below hB).more hB.size) l1 l2 dw rw_ hl hn h0 hn2 h4)
  rw [he]
  clear he l1 l2 dw rw_
  go_wp2
  have hL0 := (Below.refl V.heap.size V).alloc (Nat.le_refl _) (.cells (agi Z4) 29)
  have N1 := hid (show IB (V.alloc (.cells (agi Z4) 29)) (w.heap.size + 1) 29 (fewN d ring 0) from by rw [LV.out]; exact IB.new V _ Z4)
  have Z1 := hid (Blk.below' Z0.out hL0)
  have B1 := hid (B0.out.trans (hL0.mono B0.out.size))
  rw [show agi Z4 = #[.int .i64 0, .int .i64 0, .int .i64 0, .int .i64 0] from rfl] at N1 Z1 B1
  generalize V.alloc (.cells #[.int .i64 0, .int .i64 0, .int .i64 0, .int .i64 0] 29) = w2 at N1 Z1 B1 ⊢
  clear hL0 Z0 B0
  first | rw [← LV.out] | skip
  go_loopw [9] (fun kv wr => ∃ k : Nat, k ≤ 8 ∧ kv = .int .i64 k ∧ Hid (IB wr w.heap.size 29 Z4) ∧ Hid (IB wr (w.heap.size + 1) 29 (fewN d ring k)) ∧ Hid (Below w.heap.size w wr)) (fun kv _ => 8 - (intOf kv).toNat)
  case atStart => exact ⟨0, by omega, rfl, Z1, N1, B1⟩
  case round =>
    clear Z1 N1 B1
    obtain ⟨k, hk, rfl, HZ, HN, HB⟩ := hrel
    obtain ⟨wo, rfl⟩ : ∃ wo : World, wo = wr := ⟨_, rfl⟩
    by_cases hlt : k < 8
    · have hdec : decide ((k : Int) < 8) = true := by simp; omega
      obtain ⟨t, htk⟩ : ∃ t, t = k % 4 := ⟨_, rfl⟩
      have ht : t < 4 := by omega
      have hkt : (k : Int) % 4 = (t : Nat) := by omega
      have NK := hid (show fewN d ring (k + 1) = (bestL d ring (fewL (fewN d ring k) t 10)).at_ from by rw [fewN, htk])
      have IN := hid (fewN_ix d ring k)
      have INN := hid (fewN_ix d ring (k + 1))
      obtain ⟨nx, hnx⟩ : ∃ nx, nx = fewN d ring (k + 1) := ⟨_, rfl⟩
      rw [← hnx] at NK INN
      have HNX := hid hnx
      have HTK := hid htk
      generalize fewN d ring k = now at *
      clear hnx htk
      go_wp2
      go_loopw [10, 11] (fun lv pv wr => ∃ (p c3 : Nat) (A3 : Option Addr), p ≤ 10 ∧ pv = .int .i64 p ∧ lv = .slice A3 p c3 ∧ Hid (Own4 wr (w.heap.size + 2) A3 c3 (fewL now t p)) ∧ Hid (IB wr w.heap.size 29 Z4) ∧ Hid (IB wr (w.heap.size + 1) 29 now) ∧ Hid (Below w.heap.size w wr)) (fun _ pv _ => 10 - (intOf pv).toNat)
      case atStart => exact ⟨0, 0, none, by omega, rfl, rfl, hid Own4.nil, HZ, HN, HB⟩
      case round =>
        clear HZ HN HB
        obtain ⟨p, c3, A3, hp, rfl, rfl, HO, HZ, HN, HB⟩ := hrel
        by_cases hlp : p < 10
        · have NL := hid (fewL_snoc now t p)
          have LL := hid (show (fewL now t p).length = p by simp [fewL])
          have hL := (Below.refl wr.heap.size wr).alloc (Nat.le_refl _) (.cells (agi Z4) 29)
          have SZ := hid (Blk.lt HN.out)
          have N1 := hid (show IB ((wr.alloc (.cells (agi Z4) 29)).setRow wr.heap.size (agi now)) (w.heap.size + 1) 29 now from Blk.rowFar (Blk.below' HN.out hL) (by have := SZ.out; omega))
          have Z1 := hid (show IB ((wr.alloc (.cells (agi Z4) 29)).setRow wr.heap.size (agi now)) w.heap.size 29 Z4 from Blk.rowFar (Blk.below' HZ.out hL) (by have := SZ.out; omega))
          have X1 := hid (IB.setRow (IB.new wr 29 Z4) now)
          have B1 := hid (below_setRow (HB.out.trans (hL.mono HB.out.size)) (g := wr.heap.size) HB.out.size (agi now))
          have L1 := below_setRow hL (g := wr.heap.size) (Nat.le_refl _) (agi now)
          have O1 := hid (HO.out.below L1)
          have S1 := hid L1.size
          obtain ⟨w1, hw1⟩ : ∃ w1, w1 = (wr.alloc (.cells (agi Z4) 29)).setRow wr.heap.size (agi now) := ⟨_, rfl⟩
          have G1 := hid (show w1.heap.size = wr.heap.size + 1 by rw [hw1]; simp)
          rw [← hw1] at N1 Z1 X1 B1 O1 S1
          rw [show agi Z4 = #[.int .i64 0, .int .i64 0, .int .i64 0, .int .i64 0] from rfl] at hw1
          have HW1 := hid hw1
          have ct := IB.cell X1.out t (by rw [IN.out.1]; exact ht)
          have ft := Blk.frozen X1.out t
          have t4 : (t : Int) < 4 := by omega
          have t0 : (0 : Int) ≤ t := by omega
          have X2 := hid (show IB (w1.setCell ⟨wr.heap.size, t, none⟩ (.int .i64 (p : Nat))) wr.heap.size 29 (fewX now t p) from IB.set_ X1.out t p)
          have N2 := hid (Blk.far N1.out (p := ⟨wr.heap.size, t, none⟩) (by show w.heap.size + 1 ≠ wr.heap.size; have := SZ.out; omega) (.int .i64 (p : Nat)))
          have Z2 := hid (Blk.far Z1.out (p := ⟨wr.heap.size, t, none⟩) (by show w.heap.size ≠ wr.heap.size; have := SZ.out; omega) (.int .i64 (p : Nat)))
          have B2 := hid (B1.out.setCell (p := ⟨wr.heap.size, t, none⟩) (by show w.heap.size ≤ wr.heap.size; have := SZ.out; omega) (.int .i64 (p : Nat)))
          have O2 := hid (show Own4 (w1.setCell ⟨wr.heap.size, t, none⟩ (.int .i64 (p : Nat))) (w.heap.size + 2) A3 c3 (fewL now t p) from HO.out.below (L1.setCell (p := ⟨wr.heap.size, t, none⟩) (Nat.le_refl _) (.int .i64 (p : Nat)) |> fun h => by rw [HW1.out]; exact h))
          have XL := hid (fewX_len IN.out.1 t p)
          obtain ⟨xx, hxx⟩ : ∃ xx, xx = fewX now t p := ⟨_, rfl⟩
          rw [← hxx] at X2 XL NL
          clear hxx
          obtain ⟨y0, y1, y2, y3, rfl⟩ := list4 XL.out
          obtain ⟨w2, hw2⟩ : ∃ w2, w2 = w1.setCell ⟨wr.heap.size, t, none⟩ (.int .i64 (p : Nat)) := ⟨_, rfl⟩
          have G2 := hid (show w2.heap.size = wr.heap.size + 1 by rw [hw2]; simp [World.setCell]; exact G1.out)
          rw [← hw2] at X2 N2 Z2 B2 O2
          have HW2 := hid hw2
          have hL2 := (Below.refl w2.heap.size w2).alloc (Nat.le_refl _) (.cells (agi [y0, y1, y2, y3]) 29)
          have X3 := hid (IB.new w2 29 [y0, y1, y2, y3])
          have N3 := hid (Blk.below' N2.out hL2)
          have Z3 := hid (Blk.below' Z2.out hL2)
          have B3 := hid (B2.out.trans (hL2.mono B2.out.size))
          have O3 := hid (O2.out.below hL2)
          have SB := hid (show w.heap.size + 2 ≤ (w2.alloc (.cells (agi [y0, y1, y2, y3]) 29)).heap.size by simp; have := SZ.out; have := G2.out; omega)
          rw [agi4_] at X3 N3 Z3 B3 O3 SB
          generalize fewL now t p = lp at *
          clear hL hL2 L1 hw1 hw2 N1 Z1 B1 O1 N2 Z2 B2 O2 HO HZ HB
          go_wp2_with (first
            | (refine wpList_loadI rfl 29 (.tmp 8) rfl _ 29 now 4 _ rfl HN.out Try.underlying29 rfl size4i IN.out.1 ?_)
            | (refine wpList_storeI rfl 29 (.tmp 12) (.tmp 28) rfl _ 29 Z4 now 4 rfl rfl (IB.new wr _ Z4) size4i rfl IN.out.1 ?_; rw [← HW1.out])
            | (refine wpList_loadI rfl 29 (.tmp 12) rfl _ 29 [y0, y1, y2, y3] 4 _ rfl X2.out Try.underlying29 rfl size4i rfl ?_; rw [agi4_])
            | rw [← HW2.out]
            | (at_builtin; refine wpList_push4 rfl (.tmp 33) (.tmp 35) rfl (w.heap.size + 2) A3 c3 p lp rfl LL.out O3.out w2.heap.size [y0, y1, y2, y3] rfl X3.out rfl (by omega) SB.out ?_; intro A4 c4 w4 hO hG; have O4 := hid hO; have N4 := hid (show IB w4 (w.heap.size + 1) 29 now from Blk.grownA N3.out hG (O3.out.ne_ (by omega))); have Z4' := hid (show IB w4 w.heap.size 29 Z4 from Blk.grownA Z3.out hG (O3.out.ne_ (by omega))); have B4 := hid (show Below w.heap.size w w4 from below_grown4 B3.out O3.out hG (by have := SB.out; omega) (by omega)); clear hO hG))
          go_roundw
          case rel => exact ⟨p + 1, c4, A4, by omega, by go_num, rfl, by rw [NL.out]; exact O4, Z4', N4, B4⟩
          case measure => simp [intOf] <;> omega
        · obtain rfl : p = 10 := by omega
          have LL := hid (show (fewL now t 10).length = 10 by simp [fewL])
          obtain ⟨g, rfl, hR4⟩ := HO.out.reads (by rw [LL.out]; omega)
          have K1 := hid (KBO.out wr HB.out c3 g 10 (fewL now t 10) (fewL_ix IN.out t (Nat.le_refl _)) LL.out (by omega) (by omega) hR4)
          rw [← NK.out] at K1
          clear hR4 HO hlp hp
          go_wp2_with fail
          refine K1.out.mono ?_
          rintro e w2 ⟨rfl, hB⟩
          have N2 := hid (Blk.below' HN.out hB)
          have Z2 := hid (show IB (w2.setRow (w.heap.size + 1) (agi nx)) w.heap.size 29 Z4 from Blk.rowFar (Blk.below' HZ.out hB) (by omega))
          have N3 := hid (show IB (w2.setRow (w.heap.size + 1) (agi nx)) (w.heap.size + 1) 29 (fewN d ring (k + 1)) from by rw [← HNX.out]; exact IB.setRow N2.out nx)
          have B3 := hid (below_setRow (HB.out.trans (hB.mono HB.out.size)) (g := w.heap.size + 1) (by omega) (agi nx))
          clear hB K1 HB HZ HN
          go_wp2_with (refine wpList_storeI rfl 29 (.tmp 8) (.tmp 40) rfl _ 29 now nx 4 rfl rfl N2.out size4i IN.out.1 INN.out.1 ?_)
          go_roundw
          case rel => exact ⟨k + 1, by omega, by go_num, Z2, N3, B3⟩
          case measure => simp [intOf] <;> omega
    · obtain rfl : k = 8 := by omega
      have IXX := hid (fewN_ix d ring 8)
      obtain ⟨WX, rfl⟩ : ∃ WX : World, WX = wo := ⟨_, rfl⟩
      obtain ⟨gx, hgx⟩ : ∃ gx, gx = w.heap.size + 1 := ⟨_, rfl⟩
      have JX := HN
      rw [← hgx] at JX ⊢
      have ZX := HZ
      have BX := HB
      have LGX := hid (show w.heap.size < gx by omega)
      clear HN HZ HB hgx KBO hlt hk
      obtain ⟨P, hP⟩ : ∃ P, P = SeAns d ring (fewN d ring 8) w := ⟨_, rfl⟩
      have FG := fun w' (hB : Below w.heap.size w w') => show P (.returned (.tuple #[.agg (agi (fewN d ring 8)), .int .i64 (sgnB d (fewN d ring 8) 4), .int .i64 0])) w' from by rw [hP]; exact SeAns.good (x := (fewN d ring 8)) E0.out hB
      have HP := hid hP
      have KSG1 := signsOf_any A c d (fewN d ring 8) WX.drew (show Rs WX.drew WX.drew.heap.size A d from (HD.out.below BX.out).more BX.out.size) DL.out IXX.out
      have J3' := JX.out
      have IXN := IXX.out
      clear hP
      obtain ⟨xs, hxs⟩ : ∃ xs, xs = (fewN d ring 8) := ⟨_, rfl⟩
      have HXS := hid hxs
      rw [← hxs] at J3' IXN KSG1 FG
      clear hxs JX IXX
      obtain ⟨x0, x1, x2, x3, rfl⟩ := list4 IXN.1
      have FG := hid FG
      have J3 := hid J3'
      generalize sgnB d [x0, x1, x2, x3] 4 = sv at *
      have KS1 := hid (show Calls Try.prog 55 #[.slice A 40 c, .agg #[.int .i64 x0, .int .i64 x1, .int .i64 x2, .int .i64 x3]] WX.drew (fun e w' => e = .returned (.int .i64 sv) ∧ Below WX.drew.heap.size WX.drew w') from KSG1)
      rename_i FGr
      clear FGr KSG1 IXN
      have LG1 := LGX.out
      have LG2 : ¬ w.heap.size = gx := by omega
      have LG3 : ¬ gx = w.heap.size := by omega
      have k0 : World.cell? WX ⟨gx, 0, none⟩ = some (.int .i64 x0) := IB.cell J3' 0 (by first | decide | simp); have k1 : World.cell? WX ⟨gx, 1, none⟩ = some (.int .i64 x1) := IB.cell J3' 1 (by first | decide | simp); have k2 : World.cell? WX ⟨gx, 2, none⟩ = some (.int .i64 x2) := IB.cell J3' 2 (by first | decide | simp); have k3 : World.cell? WX ⟨gx, 3, none⟩ = some (.int .i64 x3) := IB.cell J3' 3 (by first | decide | simp)
      clear J3'
      go_wp2
      go_region_held3 (fun w' => w'.cell? ⟨gx, 0, none⟩ = some (.int .i64 x0) ∧ w'.cell? ⟨gx, 1, none⟩ = some (.int .i64 x1) ∧ w'.cell? ⟨gx, 2, none⟩ = some (.int .i64 x2) ∧ w'.cell? ⟨gx, 3, none⟩ = some (.int .i64 x3)) (go_keep) (first
        | (go_at_call 55; (with_reducible refine KS1.out.mono ?_); rintro e w3 ⟨rfl, hB⟩; have J4 : IB w3 gx 29 [x0, x1, x2, x3] := Blk.below' (Blk.drew J3.out) hB; have Z4' : IB w3 w.heap.size 29 Z4 := Blk.below' (Blk.drew ZX.out) hB; have B4 := hid (show Below w.heap.size w w3 from BX.out.drew.trans (hB.mono BX.out.size)); have l0 : World.cell? w3 ⟨gx, 0, none⟩ = some (.int .i64 x0) := IB.cell J4 0 (by first | decide | simp); have l1 : World.cell? w3 ⟨gx, 1, none⟩ = some (.int .i64 x1) := IB.cell J4 1 (by first | decide | simp); have l2 : World.cell? w3 ⟨gx, 2, none⟩ = some (.int .i64 x2) := IB.cell J4 2 (by first | decide | simp); have l3 : World.cell? w3 ⟨gx, 3, none⟩ = some (.int .i64 x3) := IB.cell J4 3 (by first | decide | simp); have z0 : World.cell? w3 ⟨w.heap.size, 0, none⟩ = some (.int .i64 0) := IB.cell Z4' 0 (by first | decide | simp); have z1 : World.cell? w3 ⟨w.heap.size, 1, none⟩ = some (.int .i64 0) := IB.cell Z4' 1 (by first | decide | simp); have z2 : World.cell? w3 ⟨w.heap.size, 2, none⟩ = some (.int .i64 0) := IB.cell Z4' 2 (by first | decide | simp); have z3 : World.cell? w3 ⟨w.heap.size, 3, none⟩ = some (.int .i64 0) := IB.cell Z4' 3 (by first | decide | simp); have y0 : World.frozen? w3 ⟨w.heap.size, 0, none⟩ = false := Blk.frozen Z4' 0; have y1 : World.frozen? w3 ⟨w.heap.size, 1, none⟩ = false := Blk.frozen Z4' 1; have y2 : World.frozen? w3 ⟨w.heap.size, 2, none⟩ = false := Blk.frozen Z4' 2; have y3 : World.frozen? w3 ⟨w.heap.size, 3, none⟩ = false := Blk.frozen Z4' 3; have J4 := hid J4; have Z5 := hid Z4'; clear hB Z4'))
      rename_i hHeldZ
      clear hHeldZ
      clear k0 k1 k2 k3 l0 l1 l2 l3 z0 z1 z2 z3 y0 y1 y2 y3
      simp only [Exit.then]
      have RF := hid (show IB ((((w3.setCell ⟨w.heap.size, 0, none⟩ (.int .i64 x0)).setCell ⟨w.heap.size, 1, none⟩ (.int .i64 x1)).setCell ⟨w.heap.size, 2, none⟩ (.int .i64 x2)).setCell ⟨w.heap.size, 3, none⟩ (.int .i64 x3)) w.heap.size 29 [x0, x1, x2, x3] from IB.set_ (IB.set_ (IB.set_ (IB.set_ Z5.out 0 x0) 1 x1) 2 x2) 3 x3)
      have BF := hid (show Below w.heap.size w ((((w3.setCell ⟨w.heap.size, 0, none⟩ (.int .i64 x0)).setCell ⟨w.heap.size, 1, none⟩ (.int .i64 x1)).setCell ⟨w.heap.size, 2, none⟩ (.int .i64 x2)).setCell ⟨w.heap.size, 3, none⟩ (.int .i64 x3)) from (((B4.out.setCell (p := ⟨w.heap.size, 0, none⟩) (Nat.le_refl _) _).setCell (p := ⟨w.heap.size, 1, none⟩) (Nat.le_refl _) _).setCell (p := ⟨w.heap.size, 2, none⟩) (Nat.le_refl _) _).setCell (p := ⟨w.heap.size, 3, none⟩) (Nat.le_refl _) _)
      go_wp2
      refine bodyPost_ret (v := _) (hR _ _ _ 29 [x0, x1, x2, x3] _ 4 rfl RF.out Try.underlying29 rfl size4i rfl) rfl ?_
      have := FG.out _ BF.out
      rw [HP.out] at this
      exact this
end Go.Proofs.Ytcfmipobgljbeaa

/- Plain facts on the filter that makes speech. No program in sight. -/
namespace Go.Proofs.Ytcfmipobgljbeaa
set_option linter.unusedVariables false
set_option linter.unusedSimpArgs false
set_option maxRecDepth 100000

def okP1 (x : Int) : Bool := decide (-1048576 ≤ x ∧ x ≤ 1048576)
theorem okP1_yes {x : Int} (h1 : -1048576 ≤ x) (h2 : x ≤ 1048576) : okP1 x = true := by unfold okP1; simp; omega
theorem okP1_no {x : Int} (h : x < -1048576 ∨ 1048576 < x) : okP1 x = false := by unfold okP1; simp; omega
def okP (a : List Int) : Bool := a.all okP1
theorem okP_at {a : List Int} (h : okP a = true) (i : Nat) : -1048576 ≤ a.getD i 0 ∧ a.getD i 0 ≤ 1048576 := by
  by_cases hi : i < a.length
  · have := List.all_eq_true.mp h _ (List.getElem_mem hi)
    rw [List.getD_eq_getElem?_getD, List.getElem?_eq_getElem hi]
    unfold okP1 at this
    simpa using this
  · rw [List.getD_eq_getElem?_getD, List.getElem?_eq_none (by omega)]
    simp
def goodF (a p l : List Int) : Bool := okP a && (decide (a.getD 0 0 = 4096) && (all16 p && all16 l))

def gterm (a p : List Int) (i : Nat) : Int := a.getD (i + 1) 0 * p.getD i 0
theorem gterm_bound {a p : List Int} (ha : okP a = true) (hp : all16 p = true) (i : Nat) : -34359738368 ≤ gterm a p i ∧ gterm a p i ≤ 34359738368 := by
  have h1 := okP_at ha (i + 1)
  have h2 := all16_at hp i
  have := mul_bound (x := a.getD (i + 1) 0) (X := 1048576) (y := p.getD i 0) (Y := 32768) (by omega) (by omega) ⟨by omega, by omega⟩ ⟨by omega, by omega⟩
  unfold gterm
  omega
theorem gsum_bound {a p : List Int} (ha : okP a = true) (hp : all16 p = true) (n : Nat) : -(34359738368 * (n : Int)) ≤ sumN (gterm a p) n ∧ sumN (gterm a p) n ≤ 34359738368 * (n : Int) := by
  induction n with
  | zero => simp [sumN]
  | succ n ih =>
    have := gterm_bound ha hp n
    simp only [sumN]
    push_cast
    omega
def guessL (a p : List Int) : Int := (2048 + sumN (gterm a p) 8) / 4096
theorem guess_bound {a p : List Int} (ha : okP a = true) (hp : all16 p = true) : -1000000000 ≤ guessL a p ∧ guessL a p ≤ 1000000000 := by
  have := gsum_bound ha hp 8
  unfold guessL
  omega

def pushL (p : List Int) (x : Int) : List Int := x :: p.take 7
theorem pushL_len {p : List Int} (h : p.length = 8) (x : Int) : (pushL p x).length = 8 := by simp [pushL, h]
theorem all16_take {p : List Int} (h : all16 p = true) (n : Nat) : all16 (p.take n) = true := by
  unfold all16 at *
  rw [List.all_eq_true] at *
  intro x hx
  exact h x (List.mem_of_mem_take hx)
theorem all16_push {p : List Int} (h : all16 p = true) {x : Int} (hx : ok16 x = true) : all16 (pushL p x) = true := by
  have := all16_take h 7
  unfold all16 at *
  simp [pushL, hx, this]
theorem ok16_s16 (x : Int) : ok16 (s16 x) = true := by
  have := s16_range x
  exact ok16_yes (by omega) (by omega)

/-- The newest eight of numbers behind a past, the newest first. -/
def newL (p : List Int) : List Int → List Int
  | [] => p
  | x :: xs => newL (pushL p x) xs
theorem newL_len : ∀ (l p : List Int), p.length = 8 → (newL p l).length = 8
  | [], _, h => h
  | x :: xs, p, h => newL_len xs (pushL p x) (pushL_len h x)
theorem newL_snoc : ∀ (l p : List Int) (x : Int), newL p (l ++ [x]) = pushL (newL p l) x
  | [], _, _ => rfl
  | y :: ys, p, x => newL_snoc ys (pushL p y) x
theorem newL_all : ∀ (l p : List Int), all16 p = true → all16 l = true → all16 (newL p l) = true
  | [], _, h, _ => h
  | x :: xs, p, h, hl => by
    have h2 : ok16 x = true ∧ all16 xs = true := by simpa [all16] using hl
    exact newL_all xs (pushL p x) (all16_push h h2.1) h2.2
theorem pushL_get {p : List Int} (x : Int) (i : Nat) (hi : i < 8) : (pushL p x).getD i 0 = if i = 0 then x else p.getD (i - 1) 0 := by
  rcases i with _ | i
  · simp [pushL]
  · have h7 : i < 7 := by omega
    simp [pushL, h7]
/-- The reference's row. -/
def newAt (p l : List Int) (i : Nat) : Int := if i < l.length then l.getD (l.length - 1 - i) 0 else p.getD (i - l.length) 0
theorem newAt_snoc (p l : List Int) (x : Int) (i : Nat) : newAt p (l ++ [x]) i = if i = 0 then x else newAt p l (i - 1) := by
  unfold newAt
  rcases i with _ | i
  · simp
  · simp only [List.length_append, List.length_singleton, Nat.add_sub_cancel, Nat.succ_ne_zero, if_false]
    by_cases h : i < l.length
    · rw [if_pos (by omega), if_pos h]
      have e : l.length - (i + 1) = l.length - 1 - i := by omega
      rw [e, List.getD_eq_getElem?_getD, List.getD_eq_getElem?_getD, List.getElem?_append_left (by omega)]
    · rw [if_neg (by omega), if_neg h]
      congr 1
      omega
theorem newL_get (p : List Int) (l : List Int) : ∀ i, i < 8 → (newL p l).getD i 0 = newAt p l i := by
  induction hl : l.length generalizing l with
  | zero =>
    intro i _
    obtain rfl : l = [] := List.eq_nil_of_length_eq_zero hl
    simp [newL, newAt]
  | succ n ih =>
    intro i hi
    have hne : l ≠ [] := by intro h; simp [h] at hl
    obtain ⟨m, x, rfl⟩ : ∃ m x, l = m ++ [x] := ⟨l.dropLast, l.getLast hne, (List.dropLast_concat_getLast hne).symm⟩
    rw [newL_snoc, newAt_snoc, pushL_get _ _ hi]
    split
    · rfl
    · exact ih m (by simpa using hl) (i - 1) (by omega)
theorem newL_range {p l : List Int} (hp : p.length = 8) : newL p l = (List.range 8).map (newAt p l) := by
  refine list_ext (by rw [newL_len _ _ hp]; simp) fun k hk => ?_
  rw [newL_len _ _ hp] at hk
  rw [newL_get p l k hk]
  simp [hk]

/-- The samples of an excitation. -/
def makeN (a p e : List Int) : Nat → List Int
  | 0 => []
  | n + 1 => makeN a p e n ++ [s16 (e.getD n 0 - guessL a (newL p (makeN a p e n)))]
theorem makeN_len (a p e : List Int) (n : Nat) : (makeN a p e n).length = n := by
  induction n with
  | zero => rfl
  | succ n ih => simp [makeN, ih]
theorem makeN_all (a p e : List Int) (n : Nat) : all16 (makeN a p e n) = true := by
  induction n with
  | zero => rfl
  | succ n ih =>
    unfold all16 at *
    simp [makeN, ih, ok16_s16]
/-- The excitation of samples. -/
def undoN (a p l : List Int) : Nat → List Int
  | 0 => []
  | n + 1 => undoN a p l n ++ [s16 (l.getD n 0 + guessL a (newL p (l.take n)))]
theorem undoN_len (a p e : List Int) (n : Nat) : (undoN a p e n).length = n := by
  induction n with
  | zero => rfl
  | succ n ih => simp [undoN, ih]
theorem take_snoc {l : List Int} {n : Nat} (h : n < l.length) : l.take (n + 1) = l.take n ++ [l.getD n 0] := by
  rw [List.take_add_one, List.getElem?_eq_getElem h]
  simp [List.getD_eq_getElem?_getD, List.getElem?_eq_getElem h]
end Go.Proofs.Ytcfmipobgljbeaa

/- The walk of Mix, the program's. -/
namespace Go.Proofs.Ytcfmipobgljbeaa
set_option linter.unusedVariables false
set_option linter.unusedSimpArgs false
set_option maxRecDepth 100000
open Go.RowKit

def Mixes (w : World) (a b : List Int) (num : Int) (e : Ending) (w' : World) : Prop := e = .returned (.tuple #[.agg (agi (mixL a b num)), .int .i64 (errOf (mixB a b num))]) ∧ Below w.heap.size w w'
def Z8 : List Int := List.replicate 8 0
def Z9 : List Int := List.replicate 9 0
theorem z8_eq : agi Z8 = #[.int .i64 0, .int .i64 0, .int .i64 0, .int .i64 0, .int .i64 0, .int .i64 0, .int .i64 0, .int .i64 0] := rfl
theorem z9_eq : agi Z9 = #[.int .i64 0, .int .i64 0, .int .i64 0, .int .i64 0, .int .i64 0, .int .i64 0, .int .i64 0, .int .i64 0, .int .i64 0] := rfl
theorem size8 : (Try.prog.info? 42).map (·.size) = some 8 := by kernel_rfl
theorem size9 : (Try.prog.info? 23).map (·.size) = some 9 := by kernel_rfl

theorem mix_bad {w w' : World} {a b : List Int} {num : Int} (h : mixB a b num = false) (hB : Below w.heap.size w w') : Mixes w a b num (.returned (.tuple #[.agg (agi Z8), .int .i64 2])) w' := by
  refine ⟨?_, hB⟩
  unfold mixL errOf
  rw [h]
  rfl
theorem mix_good {w w' : World} {a b ys : List Int} {num : Int} (h : mixB a b num = true) (hl : ys.length = 8) (hy : ∀ j, j < 8 → ys.getD j 0 = mixE a b num j) (hB : Below w.heap.size w w') : Mixes w a b num (.returned (.tuple #[.agg (agi ys), .int .i64 0])) w' := by
  refine ⟨?_, hB⟩
  have e : ys = mixL a b num := by
    apply list_ext (by rw [hl, mixL_len])
    intro j hj
    rw [hy j (by omega)]
    unfold mixL
    rw [if_pos h, List.getD_eq_getElem?_getD, List.getElem?_map, List.getElem?_range (by omega)]
    rfl
  unfold errOf
  rw [h, e]
  rfl
theorem mixB_a {a b : List Int} {num : Int} {k : Nat} (hk : k < a.length) (h : a.getD k 0 ≤ -32768 ∨ 32768 ≤ a.getD k 0) : mixB a b num = false := by
  unfold mixB steadyB; rw [all_no hk (okR_no h)]; simp
theorem mixB_b {a b : List Int} {num : Int} {k : Nat} (hk : k < b.length) (h : b.getD k 0 ≤ -32768 ∨ 32768 ≤ b.getD k 0) : mixB a b num = false := by
  unfold mixB steadyB; rw [all_no hk (okR_no h)]; simp

structure MixInv (w wr : World) (a b ys : List Int) : Prop where
  A : IB wr w.heap.size 42 a
  B : IB wr (w.heap.size + 1) 42 b
  R : IB wr (w.heap.size + 1 + 1) 42 Z8
  O : IB wr (w.heap.size + 1 + 1 + 1) 42 ys
  bel : Below w.heap.size w wr
theorem MixInv.start (w : World) (a b : List Int) : MixInv w ((((w.alloc (.cells (agi a) 42)).alloc (.cells (agi b) 42)).alloc (.cells (agi Z8) 42)).alloc (.cells (agi Z8) 42)) a b Z8 := by
  have h1 := IB.new w 42 a
  have h2 := IB.new (w.alloc (.cells (agi a) 42)) 42 b
  have h3 := IB.new ((w.alloc (.cells (agi a) 42)).alloc (.cells (agi b) 42)) 42 Z8
  have h4 := IB.new (((w.alloc (.cells (agi a) 42)).alloc (.cells (agi b) 42)).alloc (.cells (agi Z8) 42)) 42 Z8
  simp only [World.size_alloc] at h2 h3 h4
  exact ⟨((Blk.alloc h1 _).alloc _).alloc _, (Blk.alloc h2 _).alloc _, Blk.alloc h3 _, h4, ((((Below.refl _ _).alloc (Nat.le_refl _) _).alloc (by simp) _).alloc (by simp; omega) _).alloc (by simp; omega) _⟩

end Go.Proofs.Ytcfmipobgljbeaa

/- The walk of the reference's Steady. -/
namespace Go.Proofs.Ytcfmipobgljbeaa
set_option linter.unusedVariables false
set_option linter.unusedSimpArgs false
set_option maxRecDepth 100000
open Go.RowKit

/-- A function that answers a Bool and makes new memory at most. -/
def AnsB (w : World) (b : Bool) (e : Ending) (w' : World) : Prop := e = .returned (.bool b) ∧ Below w.heap.size w w'

set_option maxHeartbeats 2000000 in
theorem steady_any (a : List Int) (w : World) (ha : a.length = 8) : Calls Try.prog 93 #[.agg (agi a)] w (AnsB w (steadyB a)) := by
  have hI := hid (IB.new w 42 a)
  have HA := hid ha
  have hix := fun (k : Nat) (hk : k < 8) (w : World) => run_index_agi Try.underlying42 a ha k hk w
  have HIX := hid hix
  clear ha hix
  go_enter Try.func93, Try.ntmps93
  go_wp2_with (refine wpList_loadI rfl 42 (.tmp 1) rfl _ 42 a 8 _ rfl hI.out Try.underlying42 rfl size8 HA.out ?_)
  go_loop [6] (fun iv => ∃ k : Nat, k ≤ 8 ∧ iv = .int .i64 k ∧ Hid (allTo okR a k)) (fun iv => 8 - (intOf iv).toNat)
  case atStart => exact ⟨0, by omega, rfl, hid allTo.zero⟩
  case round =>
    obtain ⟨k, hk, rfl, HY⟩ := hrel
    by_cases hlt : k < 8
    · have hix := HIX.out k hlt
      obtain ⟨x, hx⟩ : ∃ x, x = a.getD k 0 := ⟨_, rfl⟩
      rw [← hx] at hix
      have HX := hid hx
      clear hx
      by_cases b1 : x ≤ -32768
      · have HF := hid (show steadyB a = false from all_no (i := k) (by rw [HA.out]; exact hlt) (okR_no (by rw [← HX.out]; exact .inl b1)))
        go_wp2
        go_ret
        exact ⟨by rw [HF.out]; rfl, (Below.refl _ _).alloc (Nat.le_refl _) _⟩
      by_cases b2 : 32768 ≤ x
      · have HF := hid (show steadyB a = false from all_no (i := k) (by rw [HA.out]; exact hlt) (okR_no (by rw [← HX.out]; exact .inr b2)))
        go_wp2
        go_ret
        exact ⟨by rw [HF.out]; rfl, (Below.refl _ _).alloc (Nat.le_refl _) _⟩
      have HN := hid (HY.out.succ (by rw [← HX.out]; exact okR_yes (by omega) (by omega)))
      go_wp2
      go_round
      case rel => exact ⟨k + 1, by omega, by go_num, HN⟩
      case measure => simp [intOf] <;> omega
    · obtain rfl : k = 8 := by omega
      have HF := hid (show steadyB a = true from HY.out.all (by rw [HA.out]; exact Nat.le_refl _))
      go_wp2
      go_ret
      exact ⟨by rw [HF.out]; rfl, (Below.refl _ _).alloc (Nat.le_refl _) _⟩
end Go.Proofs.Ytcfmipobgljbeaa

/- The walks of div (short numbers), QuoRem, DivMod, Div. -/
namespace Go.Proofs.Ytcfmipobgljbeaa
set_option linter.unusedVariables false
set_option linter.unusedSimpArgs false
set_option maxRecDepth 100000
open Go.RowKit

/-- What div answers. -/
def DivGives (w : World) (q r : Nat) (e : Ending) (w' : World) : Prop := ∃ v1 v2, e = .returned (.tuple #[v1, v2]) ∧ Nm w' v1 q ∧ Nm w' v2 r ∧ Below w.heap.size w w'

theorem Nm.drewN {w : World} {v : Value} {n : Nat} (h : Nm w v n) (k : Nat) : Nm (w.drewN k) v n := h.below (B := w.heap.size) ⟨rfl, rfl, rfl, Nat.le_refl _, fun _ _ => rfl⟩ (Nat.le_refl _)

set_option maxRecDepth 100000 in
set_option maxHeartbeats 2000000 in
theorem div_short (w : World) (va vb : Value) (a b : Nat) (ha : Nm w va a) (hb : Nm w vb b) (hb0 : b ≠ 0) (hlim : a < 18446744073709551616) (sb : Sm b) :
    Calls Try.prog 126 #[va, vb] w (DivGives w (a / b) (a % b)) := by
  have sa : Sm a := sm_of_lt (by omega)
  have HA := hid ha
  have HB := hid hb
  obtain ⟨ao, an, ac, ua, hva, hra, hta, hna, hla⟩ := ha.len sa
  obtain ⟨bo, bn, bc, ub, hvb, hrb, htb, hnb, hlb⟩ := hb.len sb
  have han : an ≤ 2 := by
    rw [← hra.len]; exact len_le_of_lt hta (n := 2) (by rw [hna]; simpa using hlim)
  have hbn : bn ≠ 0 := by
    intro h; subst h
    have : ub = [] := List.length_eq_zero_iff.1 hrb.len
    subst this; exact hb0 (by rw [← hnb]; rfl)
  have hbz : ((bn : Int) == 0) = false := by rw [beq_eq_false_iff_ne]; omega
  have K := hid (cmp_nm w va vb a b ha hb sa sb)
  have T := hid (fun k => twin_nm (w.drewN k) va a (ha.drewN k) sa)
  by_cases hlt : a < b
  · have hc : cmpN a b < 0 := by rw [cmpN_lt hlt]; decide
    have FIN := hid (fun (k : Nat) (v : Value) (w1 : World) (hnm : Nm w1 v a) (hbel : Below (w.drewN k).heap.size (w.drewN k) w1) =>
      show DivGives w (a / b) (a % b) (.returned (.tuple #[.slice none 0 0, v])) w1 from
        ⟨_, _, rfl, by rw [Nat.div_eq_of_lt hlt]; exact Nm.nil w1, by rw [Nat.mod_eq_of_lt hlt]; exact hnm, Below.trans (b := w.drewN k) ⟨rfl, rfl, rfl, Nat.le_refl _, fun _ _ => rfl⟩ hbel⟩)
    clear ha hb hra hta hna hrb htb hnb sa sb hlt hla hlb hb0 hlim
    subst hva hvb
    go_enter Try.func126, Try.ntmps126
    go_wp2_with (first
      | (go_at_call 103; refine K.out.mono ?_; rintro e w1 ⟨rfl, k, rfl⟩)
      | (go_at_call 122; refine (T.out _).mono ?_; rintro e w1 ⟨⟨v1, rfl, hnm⟩, hbel⟩; have q1 := hid hnm; have q2 := hid hbel; clear hnm hbel))
    go_ret2
    exact FIN.out _ _ _ q1.out q2.out
  · have hc : 0 ≤ cmpN a b := by
      unfold cmpN
      repeat' split
      all_goals omega
    have hblim : b < 18446744073709551616 := by omega
    have PA := hid (fun k => plain_any (w.drewN k) va a (ha.drewN k) hlim)
    have PB := hid (fun k => plain_any (w.drewN k) vb b (hb.drewN k) hblim)
    have hbne : ¬ (b : Int) = 0 := by omega
    have hq0 : (0 : Int) ≤ (a : Int) / b := Int.ediv_nonneg (by omega) (by omega)
    have hq1 : (a : Int) / b ≤ 18446744073709551615 := by
      have := Int.ediv_le_self (b : Int) (a := (a : Int)) (by omega); omega
    have hr0 : (0 : Int) ≤ (a : Int) % b := Int.emod_nonneg _ (by omega)
    have hr1 : (a : Int) % b ≤ 18446744073709551615 := by
      have := Int.emod_lt_of_pos (a : Int) (b := (b : Int)) (by omega); omega
    have hqt : ((a : Int) / b).toNat = a / b := by rw [show ((a : Int) / b) = ((a / b : Nat) : Int) from by simp]; exact Int.toNat_natCast _
    have hrt : ((a : Int) % b).toNat = a % b := by rw [show ((a : Int) % b) = ((a % b : Nat) : Int) from by simp]; exact Int.toNat_natCast _
    have HQT := hid hqt
    have HRT := hid hrt
    clear ha hb hra hta hna hrb htb hnb sa sb hlt hla hlb hb0 hqt hrt
    subst hva hvb
    go_enter Try.func126, Try.ntmps126
    go_wp2_with fail
    refine K.out.mono ?_
    rintro e w1 ⟨rfl, k, rfl⟩
    go_wp2_with fail
    refine (PA.out _).mono ?_
    rintro e w1 ⟨rfl, rfl⟩
    go_wp2_with fail
    refine (PB.out _).mono ?_
    rintro e w1 ⟨rfl, rfl⟩
    go_wp2_with fail
    have hw1 : IntKind.u64.wrap ((a : Int) / b) = (a : Int) / b := by
      rw [u64_wrap]; omega
    have hw2 : (a : Int).tmod b = (a : Int) % b := Int.tmod_eq_emod_of_nonneg (by omega)
    have hw3 : (a : Int).tdiv b = (a : Int) / b := Int.tdiv_eq_ediv_of_nonneg (by omega)
    have FIN := hid (fun (w0 w1 w2 : World) (v1 v2 : Value) (h0 : Below w.heap.size w w0) (h1 : Nm w1 v1 ((a : Int) / b).toNat) (h2 : Below w0.heap.size w0 w1) (h3 : Nm w2 v2 ((a : Int) % b).toNat) (h4 : Below w1.heap.size w1 w2) =>
      show DivGives w (a / b) (a % b) (.returned (.tuple #[v1, v2])) w2 from
        ⟨_, _, rfl, by rw [HQT.out] at h1; exact h1.below h4 (Nat.le_refl _), by rw [HRT.out] at h3; exact h3, (h0.trans (h2.mono h0.size)).trans (h4.mono (Nat.le_trans h0.size h2.size))⟩)
    have tok1 : True := trivial
    go_region_with (first
      | (go_at_call 104; have _t := tok1; refine (words_any _ _ (by first | exact hq0 | exact hr0) (by first | exact hq1 | exact hr1)).mono ?_; rintro e w1 ⟨⟨v1, rfl, hnm⟩, hbel⟩; have q1 := hid hnm; have q2 := hid hbel; clear hnm hbel tok1 _t)
      | (go_at_call 104; refine (words_any _ _ (by first | exact hq0 | exact hr0) (by first | exact hq1 | exact hr1)).mono ?_; rintro e w2 ⟨⟨v2, rfl, hnm⟩, hbel⟩; have q3 := hid hnm; have q4 := hid hbel; clear hnm hbel))
    all_goals
      go_wp2
      go_ret2
      exact FIN.out ((w.drewN k).drew) w1 w2 _ _ ⟨rfl, rfl, rfl, Nat.le_refl _, fun _ _ => rfl⟩ q1.out q2.out q3.out q4.out
end Go.Proofs.Ytcfmipobgljbeaa

/- The walks of small, and of div where it has one word below. -/
namespace Go.Proofs.Ytcfmipobgljbeaa
set_option linter.unusedVariables false
set_option linter.unusedSimpArgs false
set_option maxRecDepth 100000
open Go.RowKit

/-- What small answers. -/
def SmGives (w : World) (q r : Nat) (e : Ending) (w' : World) : Prop := ∃ v, e = .returned (.tuple #[v, .int .u32 (r : Nat)]) ∧ Nm w' v q ∧ Below w.heap.size w w'

structure SmInv (w wr : World) (an : Nat) (ua : List Nat) (d k r : Nat) (rs : List Nat) : Prop where
  len : rs.length = an
  ok : wok rs
  lt : r < d
  val : wv (ua.drop k) = d * wv (rs.drop k) + r
  own : wr.ownsRow w.heap.size 95 1 (.slice (some ⟨w.heap.size, 0, none⟩) an an) an (W32 rs)
  bel : Below w.heap.size w wr

theorem drop_set_succ (l : List Nat) (k x : Nat) (h : k < l.length) : (l.set k x).drop k = x :: l.drop (k + 1) := by
  rw [List.set_eq_take_append_cons_drop, if_pos h, List.drop_append, List.drop_of_length_le (by rw [List.length_take]; omega), List.length_take, Nat.min_eq_left (by omega)]
  simp

theorem SmInv.step {w wr : World} {an : Nat} {ua : List Nat} {d k r : Nat} {rs : List Nat} (h : SmInv w wr an ua d (k + 1) r rs) (hk : k < an) (hl : ua.length = an) (hd : d < 4294967296) (hxa : ua.getD k 0 < 4294967296) :
    SmInv w (wr.setCell ⟨w.heap.size, k, none⟩ (.int .u32 (((r * 4294967296 + ua.getD k 0) / d : Nat) : Int))) an ua d k ((r * 4294967296 + ua.getD k 0) % d) (rs.set k ((r * 4294967296 + ua.getD k 0) / d)) ∧ (r * 4294967296 + ua.getD k 0) / d < 4294967296 := by
  have hrl := h.len
  have hlt := h.lt
  have hq : (r * 4294967296 + ua.getD k 0) / d < 4294967296 := by
    rw [Nat.div_lt_iff_lt_mul (by omega)]
    have := Nat.mul_le_mul_right 4294967296 (show r + 1 ≤ d by omega)
    rw [Nat.mul_comm 4294967296 d]
    omega
  refine ⟨⟨by simpa using h.len, wok_set h.ok k hq, Nat.mod_lt _ (by omega), ?_, ?_, h.bel.setCell (Nat.le_refl _) _⟩, hq⟩
  · rw [drop_set_succ _ _ _ (by omega), drop_getD ua k (by omega), wv, wv, h.val]
    have h1 := Nat.div_add_mod (r * 4294967296 + ua.getD k 0) d
    generalize ua.getD k 0 = x at *
    generalize wv (rs.drop (k + 1)) = W at *
    generalize (r * 4294967296 + x) / d = Q at *
    generalize (r * 4294967296 + x) % d = R at *
    rw [Nat.mul_add, Nat.mul_add]
    have h2 : 4294967296 * (d * W) = d * (4294967296 * W) := by rw [← Nat.mul_assoc, Nat.mul_comm 4294967296 d, Nat.mul_assoc]
    rw [h2]
    omega
  · have := (h.own.stored k (.int .u32 (((r * 4294967296 + ua.getD k 0) / d : Nat) : Int))).1
    rwa [W32_set] at this

theorem small_or {r x : Nat} (hr : r < 4294967296) (hx : x < 4294967296) : bits BinOp.or IntKind.u64 ((r : Int) * 4294967296) (x : Int) = ((r * 4294967296 + x : Nat) : Int) := by
  rw [show ((r : Int) * 4294967296) = ((r * 4294967296 : Nat) : Int) from by omega, u64_or_nat _ _ (by omega) (by omega),
    nat_join 32 _ _ (by omega) (by omega)]

set_option maxRecDepth 100000 in
set_option maxHeartbeats 2000000 in
theorem small_any (w : World) (ao : Option Addr) (an ac : Nat) (ua : List Nat) (d : Nat) (ha : Rd w ao an ac ua) (hn : an ≤ 64) (h0 : 0 < d) (hd : d < 4294967296) :
    Calls Try.prog 128 #[.slice ao an ac, .int .u32 (d : Nat)] w (SmGives w (wv ua / d) (wv ua % d)) := by
  obtain ⟨i0, hi, hz0, hz1, hz2⟩ := info_parts info32
  have HA := hid ha
  have HD := hid (And.intro h0 hd)
  have hdn : ¬ (d : Int) = 0 := by omega
  have hd0 : (0 : Int) < d := by omega
  clear ha h0
  go_enter Try.func128, Try.ntmps128
  go_wp2_with (first
    | (at_make; refine wpList_make_full _ rfl _ _ 55 rfl w.heap.size 95 i0 (.int .u32 0) 1 Try.underlying55 hi hz0 hz1 _ _ _ _ an rfl rfl (by simp) (by simp) (by rw [hz2]; omega) (by unfold maxLen; omega) (Nat.le_refl _) ?_; intro w1 hown hgrow)
    )
  rw [make32] at hown
  have inv0 : SmInv w w1 an ua d an 0 (List.replicate an 0) := ⟨by simp, wok_replicate _, HD.out.1, by rw [List.drop_of_length_le (by rw [HA.out.len]; omega), List.drop_of_length_le (by simp)]; simp [wv], hown, (Below.refl _ _).grown hgrow (Nat.le_refl _) (fun k h => by cases h)⟩
  clear hown hgrow
  go_loopw [7, 8] (fun rv iv wr => ∃ (k r : Nat) (rs : List Nat), k ≤ an ∧ iv = .int .i64 ((k : Int) - 1) ∧ rv = .int .u64 r ∧ r < 4294967296 ∧ SmInv w wr an ua d k r rs) (fun _ iv _ => (intOf iv + 1).toNat)
  case atStart => exact ⟨an, 0, _, by omega, by first | rfl | simp, rfl, by omega, inv0⟩
  case round =>
    clear inv0 w1
    obtain ⟨k, r, rs, hk, rfl, rfl, hr, inv⟩ := hrel
    by_cases hka : 0 < k
    · obtain ⟨j, rfl⟩ : ∃ j, k = j + 1 := ⟨k - 1, by omega⟩
      rw [show (((j + 1 : Nat) : Int) - 1) = (j : Int) from by omega]
      have hcr : ∃ v, wr.cell? ⟨w.heap.size, j, none⟩ = some v := by
        rw [inv.own.cellAt j (by omega)]
        exact ⟨_, List.getElem?_eq_getElem (by simp [W32, inv.len]; omega)⟩
      have hfr := inv.own.frozenAt j
      obtain ⟨v0, hcr⟩ := hcr
      have INV := hid inv
      clear inv
      obtain ⟨g, off, rfl⟩ := HA.out.addr (by omega)
      have hca := (HA.out.below INV.out.bel (Nat.le_refl _)).cell j (by omega)
      have hra := wok_getD HA.out.ok j
      have ST := hid (INV.out.step (by omega) HA.out.len hd hra)
      generalize hxa : ua.getD j 0 = xa at hca hra ST
      clear hxa
      have eor := small_or hr hra
      obtain ⟨X, hX⟩ : ∃ X, X = r * 4294967296 + xa := ⟨_, rfl⟩
      rw [← hX] at ST eor
      have hX1 : X < 18446744073709551616 := by omega
      have eq1 : (X : Int) / d = ((X / d : Nat) : Int) := by simp
      have eq2 : (X : Int) % d = ((X % d : Nat) : Int) := by simp
      have hQ := ST.out.2
      have hR : X % d < 4294967296 := by have := Nat.mod_lt X HD.out.1; omega
      have HX := hid hX
      clear hX hka
      generalize X / d = Q at *
      generalize X % d = R at *
      go_wp2
      go_roundw
      case rel => exact ⟨j, R, _, by omega, by first | rfl | simp, by first | rfl | (rw [eq2]) | (simp [eq2]), hR, ST.out.1⟩
      case measure => simp [intOf] <;> omega
    · obtain rfl : k = 0 := by omega
      have INV := hid inv
      have hval := inv.val
      have hlt := inv.lt
      simp only [List.drop_zero] at hval
      have e1 : wv ua / d = wv rs := by
        rw [hval]
        rw [Nat.mul_add_div (by omega), Nat.div_eq_of_lt hlt, Nat.add_zero]
      have e2 : wv ua % d = r := by
        rw [hval, Nat.mul_add_mod, Nat.mod_eq_of_lt hlt]
      have E := hid (And.intro e1 e2)
      clear inv hval hlt e1 e2
      go_wp2_with (go_at_call 105; refine (trim_own _ w.heap.size _ an rs INV.out.own INV.out.ok).mono ?_; rintro e w' ⟨⟨v', rfl, hnm⟩, rfl⟩)
      go_ret2
      exact ⟨v', by rw [E.out.2]; first | rfl | simp, by rw [E.out.1]; exact hnm, INV.out.bel⟩

theorem Nm.one_word (w : World) (r : Nat) (h : r < 4294967296) : ∀ c, (w.alloc (.cells #[.int .u32 (r : Nat)] 95)).ownsRow c 95 1 (.slice (some ⟨w.heap.size, 0, none⟩) 1 1) 1 (W32 [r]) ∨ ¬ c ≤ w.heap.size := fun c => by
  by_cases hc : c ≤ w.heap.size
  · exact .inl (World.ownsRow_lit (base := c) (e := 95) (size := 1) w #[.int .u32 (r : Nat)] 1 hc (by unfold maxLen; omega) rfl)
  · exact .inr hc

set_option maxRecDepth 100000 in
set_option maxHeartbeats 2000000 in
theorem div_one (w : World) (va vb : Value) (a b : Nat) (ha : Nm w va a) (hb : Nm w vb b) (hb0 : b ≠ 0) (hlim : ¬ a < 18446744073709551616) (hb1 : b < 4294967296) (sa : Sm a) :
    Calls Try.prog 126 #[va, vb] w (DivGives w (a / b) (a % b)) := by
  have sb : Sm b := sm_of_lt (by omega)
  have HA := hid ha
  have HB := hid hb
  obtain ⟨ao, an, ac, ua, hva, hra, hta, hna, hla⟩ := ha.len sa
  obtain ⟨bo, bn, bc, ub, hvb, hrb, htb, hnb, hlb⟩ := hb.len sb
  have han : 2 < an := by
    have h1 := wv_lt hra.ok
    rw [hra.len, hna] at h1
    by_cases hc : 2 < an
    · exact hc
    · have h2 : (4294967296 : Nat) ^ an ≤ 4294967296 ^ 2 := Nat.pow_le_pow_right (by decide) (by omega)
      omega
  have hbn1 : bn ≤ 1 := by rw [← hrb.len]; exact len_le_of_lt htb (n := 1) (by rw [hnb]; simpa using hb1)
  obtain ⟨y, rfl⟩ : ∃ y, ub = [y] := by
    match ub, hrb.len, hnb with
    | [], h, hn => exact absurd hn.symm hb0
    | [y], _, _ => exact ⟨y, rfl⟩
    | y :: z :: l, h, _ => simp at h; omega
  obtain rfl : bn = 1 := by simpa using hrb.len.symm
  obtain rfl : y = b := by simpa [wv] using hnb
  obtain ⟨g, off, rfl⟩ := hrb.addr (by omega)
  have hcb := hrb.cell 0 (by omega)
  simp at hcb
  have K := hid (cmp_nm w va vb a y ha hb sa sb)
  have hc : 0 ≤ cmpN a y := by
    unfold cmpN
    repeat' split
    all_goals omega
  have SM := hid (fun k => small_any (w.drewN k) ao an ac ua y (hra.below (below_drN w k) (Nat.le_refl _)) (by omega) (by omega) hb1)
  have hrr : a % y < 4294967296 := by have := Nat.mod_lt a (show 0 < y by omega); omega
  rw [hna] at SM
  have HR := hid hrr
  have HB0 := hid hb0
  clear ha hb hra hta hna hrb htb hnb sa sb hla hlb hb0 hlim hrr hbn1
  subst hva hvb
  go_enter Try.func126, Try.ntmps126
  go_wp2_with fail
  refine K.out.mono ?_
  rintro e w1 ⟨rfl, k, rfl⟩
  go_wp2_with fail
  refine (SM.out k).mono ?_
  rintro e w1 ⟨v1, rfl, hn1, hB1⟩
  have N1 := hid hn1
  have B1 := hid (show Below w.heap.size w w1 from Below.trans (b := w.drewN k) ⟨rfl, rfl, rfl, Nat.le_refl _, fun _ _ => rfl⟩ hB1)
  have hO := (Nm.one_word w1 (a % y) HR.out w1.heap.size).resolve_right (by simp)
  have OW := hid hO
  clear hn1 hB1 hO
  go_wp2_with fail
  refine (trim_own _ w1.heap.size _ 1 [a % y] OW.out (by intro x hx; simp at hx; subst hx; exact HR.out)).mono ?_
  rintro e w2 ⟨⟨v2, rfl, hn2⟩, rfl⟩
  have N2 := hid hn2
  clear hn2
  go_wp2
  go_ret2
  refine ⟨_, _, rfl, N1.out.below ((Below.refl _ _).alloc (Nat.le_refl _) _) (Nat.le_refl _), ?_, B1.out.trans ((((Below.refl _ w1).alloc (Nat.le_refl _) _)).mono B1.out.size)⟩
  have := N2.out
  simpa [wv] using this

theorem div_any (w : World) (va vb : Value) (a b : Nat) (ha : Nm w va a) (hb : Nm w vb b) (hb0 : b ≠ 0) (hlim : a < 18446744073709551616 ∨ b < 4294967296) (sa : Sm a) (sb : Sm b) :
    Calls Try.prog 126 #[va, vb] w (DivGives w (a / b) (a % b)) := by
  by_cases h : a < 18446744073709551616
  · exact div_short w va vb a b ha hb hb0 h sb
  · exact div_one w va vb a b ha hb hb0 h (by omega) sa
end Go.Proofs.Ytcfmipobgljbeaa

/- The walks of QuoRem, DivMod, Div (short numbers). -/
namespace Go.Proofs.Ytcfmipobgljbeaa
set_option linter.unusedVariables false
set_option linter.unusedSimpArgs false
set_option maxRecDepth 100000
open Go.RowKit

/-- What QuoRem and DivMod answer: q in block b, r in block m. -/
def GivesTwo (w : World) (b m : Nat) (q r : Int) (e : Ending) (w' : World) : Prop :=
  e = .returned (.tuple #[.pointer (some ⟨b, 0, none⟩), .pointer (some ⟨m, 0, none⟩)]) ∧ IntAt w' b q ∧ IntAt w' m r ∧ ∃ w1, w.grownBy w1 (some b) ∧ w1.grownBy w' (some m)

theorem sgn_tdiv (x y : Int) : sgn (!(decide (x < 0) == decide (y < 0))) (x.natAbs / y.natAbs) = x.tdiv y := by
  unfold sgn
  rcases Int.natAbs_eq x with hx | hx <;> rcases Int.natAbs_eq y with hy | hy
  all_goals
    generalize x.natAbs = a at *
    generalize y.natAbs = b at *
    subst hx hy
    try simp only [Int.neg_tdiv, Int.tdiv_neg, Int.neg_neg]
    have e : ((a : Int).tdiv b) = ((a / b : Nat) : Int) := by rw [Int.tdiv_eq_ediv_of_nonneg (by omega)]; simp
    rw [e]
    by_cases ha : a = 0
    · subst ha; simp
    · by_cases hb : b = 0
      · subst hb; simp
      · simp <;> (try omega)
        try (split <;> omega)

theorem sgn_tmod (x y : Int) : sgn (decide (x < 0)) (x.natAbs % y.natAbs) = x.tmod y := by
  unfold sgn
  rcases Int.natAbs_eq x with hx | hx <;> rcases Int.natAbs_eq y with hy | hy
  all_goals
    generalize x.natAbs = a at *
    generalize y.natAbs = b at *
    subst hx hy
    try simp only [Int.neg_tmod, Int.tmod_neg, Int.neg_neg]
    have e : ((a : Int).tmod b) = ((a % b : Nat) : Int) := by rw [Int.tmod_eq_emod_of_nonneg (by omega)]; simp
    rw [e]
    by_cases ha : a = 0
    · subst ha; simp
    · simp <;> (try omega)
      try (split <;> omega)

set_option maxHeartbeats 2000000 in
theorem QuoRem_any (w : World) (b c d m : Nat) (x y : Int) (hb : IntBlk w b) (hc : IntAt w c x) (hd : IntAt w d y) (hm : IntBlk w m) (hbm : b ≠ m)
    (hx : x.natAbs < 18446744073709551616 ∨ y.natAbs < 4294967296) (hy : y ≠ 0) (sx : Sm x.natAbs) (sy : Sm y.natAbs) :
    Calls Try.prog 125 #[.pointer (some ⟨b, 0, none⟩), .pointer (some ⟨c, 0, none⟩), .pointer (some ⟨d, 0, none⟩), .pointer (some ⟨m, 0, none⟩)] w (GivesTwo w b m (x.tdiv y) (x.tmod y)) := by
  obtain ⟨vx, h0, h1, hvx⟩ := hc.cells
  obtain ⟨vy, k0, k1, hvy⟩ := hd.cells
  obtain ⟨s, hs⟩ : ∃ s, s = decide (x < 0) := ⟨_, rfl⟩
  rw [← hs] at h0
  obtain ⟨t, ht⟩ : ∃ t, t = decide (y < 0) := ⟨_, rfl⟩
  rw [← ht] at k0
  have D0 := hid (fun n => div_any (w.drewN n) vx vy x.natAbs y.natAbs (hvx.drewN n) (hvy.drewN n) (by omega) hx sx sy)
  have FIN := hid (fun (n : Nat) (w1 w2 w3 : World) (v2 : Value) (_ : Nm w1 v2 (x.natAbs % y.natAbs)) (hB : Below (w.drewN n).heap.size (w.drewN n) w1) (hI : IntAt w2 b (sgn (!(s == t)) (x.natAbs / y.natAbs))) (hG : w1.grownBy w2 (some b)) (hJ : IntAt w3 m (sgn s (x.natAbs % y.natAbs))) (hK : w2.grownBy w3 (some m)) (hbl : IntBlk w2 m) =>
    show GivesTwo w b m (x.tdiv y) (x.tmod y) (.returned (.tuple #[.pointer (some ⟨b, 0, none⟩), .pointer (some ⟨m, 0, none⟩)])) w3 from
      ⟨rfl, by subst hs ht; rw [sgn_tdiv] at hI; exact hI.kept hbl hK hbm, by subst hs ht; rw [sgn_tmod] at hJ; exact hJ, w2, grownBy_trans (grownBy_of_below (show Below w.heap.size w w1 from Below.trans (b := w.drewN n) ⟨rfl, rfl, rfl, Nat.le_refl _, fun _ _ => rfl⟩ hB) (Nat.le_refl _) _) hG, hK⟩)
  have HB := hid hb
  have HM := hid hm
  have HBM := hid hbm
  have hlc := hc.lt
  have hld := hd.lt
  clear hvx hvy hc hd hs ht hb hm hbm hy hx sx
  go_enter Try.func125, Try.ntmps125
  go_wp2
  go_quiet (fail)
  go_wp2_with fail
  go_region_with (go_at_call 126; refine (D0.out _).mono ?_; rintro e w1 ⟨v1, v2, rfl, hn1, hn2, hB⟩; have q1 := hid hn1; have q2 := hid hn2; have q3 := hid hB; clear hn1 hn2 hB)
  all_goals
    have HW := hid (show Below w.heap.size w w1 from Below.trans (b := w.drewN _) ⟨rfl, rfl, rfl, Nat.le_refl _, fun _ _ => rfl⟩ q3.out)
    go_wp2_with fail
    refine (give_any _ b _ v1 _ (HB.out.below HW.out (Nat.le_refl _)) q1.out).mono ?_
    rintro e w2 ⟨rfl, hI, hG⟩
    have q4 := hid hI
    have q5 := hid hG
    have q6 := hid (IntBlk.kept (HM.out.below HW.out (Nat.le_refl _)) hG (fun h => HBM.out h.symm))
    have q7 := hid (q2.out.kept (HB.out.below HW.out (Nat.le_refl _)) hG)
    clear hI hG
    go_wp2_with fail
    refine (give_any _ m _ v2 _ q6.out q7.out).mono ?_
    rintro e w3 ⟨rfl, hJ, hK⟩
    have q8 := hid hJ
    have q9 := hid hK
    clear hJ hK
    go_wp2
    go_ret2
    exact FIN.out _ _ _ _ _ q2.out q3.out q4.out q5.out q8.out q9.out q6.out

theorem grownBy_new {w w' : World} {m : Nat} (h : w.grownBy w' (some m)) (hm : w.heap.size ≤ m) (row : Option Nat) : w.grownBy w' row :=
  ⟨h.os, h.tape, h.output, h.size, fun k hk _ => h.block k hk (by simp; omega)⟩

theorem tdiv_of_nonneg_rem {x y : Int} (hy : 0 < y) (h : ¬ x.tmod y < 0) : x.tdiv y = x / y := by
  have h1 := Int.mul_tdiv_add_tmod x y
  have h2 : x.tmod y < y := Int.tmod_lt_of_pos x hy
  symm
  rw [Int.ediv_eq_iff_of_pos hy]
  generalize x.tdiv y = q at *
  generalize x.tmod y = r at *
  have e1 : q * y = y * q := Int.mul_comm _ _
  have e2 : (q + 1) * y = y * q + y := by rw [Int.add_mul, Int.one_mul, Int.mul_comm]
  first
    | (rw [e1, e2]; omega)
    | (constructor <;> (first | rw [e1] | rw [e2] | skip) <;> omega)

theorem tdiv_of_neg_rem {x y : Int} (hy : 0 < y) (h : x.tmod y < 0) : x.tdiv y - 1 = x / y := by
  have h1 := Int.mul_tdiv_add_tmod x y
  have h2 : -y < x.tmod y := Int.lt_tmod_of_pos x hy
  symm
  rw [Int.ediv_eq_iff_of_pos hy]
  generalize x.tdiv y = q at *
  generalize x.tmod y = r at *
  have e1 : (q - 1) * y = y * q - y := by rw [Int.sub_mul, Int.one_mul, Int.mul_comm]
  have e2 : (q - 1 + 1) * y = y * q := by rw [Int.sub_add_cancel, Int.mul_comm]
  first
    | (rw [e1, e2]; omega)
    | (constructor <;> (first | rw [e1] | rw [e2] | skip) <;> omega)
end Go.Proofs.Ytcfmipobgljbeaa

/- The walks of Quo, BitLen, IsInt64, where the seat has them. -/
namespace Go.Proofs.Ytcfmipobgljbeaa
set_option linter.unusedVariables false
set_option linter.unusedSimpArgs false
set_option maxRecDepth 100000
open Go.RowKit

theorem BitLen_any (w : World) (c : Nat) (x : Int) (hc : IntAt w c x) (sx : Sm x.natAbs) :
    Calls Try.prog 34 #[.pointer (some ⟨c, 0, none⟩)] w fun e w' => e = .returned (.int .i64 (bitlen x.natAbs : Nat)) ∧ w = w' := by
  obtain ⟨v, h0, h1, hv⟩ := hc.cells
  have K := hid (length_any w v _ hv sx)
  clear hv hc
  go_enter Try.func34, Try.ntmps34
  go_wp2_with (go_at_call 72; refine K.out.mono ?_; rintro e w1 ⟨rfl, rfl⟩)
  go_ret
  exact ⟨rfl, rfl⟩
end Go.Proofs.Ytcfmipobgljbeaa

/- The walk of the reference's Mix. -/
namespace Go.Proofs.Ytcfmipobgljbeaa
set_option linter.unusedVariables false
set_option linter.unusedSimpArgs false
set_option maxRecDepth 100000
open Go.RowKit

theorem below_dA (w : World) (n : Nat) (o : Obj) : Below w.heap.size w ((w.drewN n).alloc o) :=
  Below.alloc (a := w) (w := w.drewN n) ⟨rfl, rfl, rfl, Nat.le_refl _, fun _ _ => rfl⟩ (Nat.le_refl _) o

/-- The two arguments' boxes and the answer's, what lies below untouched. -/
structure Bx3 (w wr : World) (a b r : List Int) : Prop where
  A : IB wr w.heap.size 42 a
  B : IB wr (w.heap.size + 1) 42 b
  R : IB wr (w.heap.size + 1 + 1) 42 r
  bel : Below w.heap.size w wr
theorem Bx3.lt {w wr : World} {a b r : List Int} (h : Bx3 w wr a b r) : w.heap.size + 1 + 1 < wr.heap.size := Blk.lt h.R
theorem Bx3.below {w wr wr' : World} {a b r : List Int} (h : Bx3 w wr a b r) (hb : Below wr.heap.size wr wr') : Bx3 w wr' a b r :=
  ⟨Blk.below' h.A hb, Blk.below' h.B hb, Blk.below' h.R hb, h.bel.trans (hb.mono (by have := h.lt; omega))⟩
theorem Bx3.setCell {w wr : World} {a b r : List Int} (h : Bx3 w wr a b r) {g : Nat} (hg : w.heap.size + 1 + 1 < g) (k : Nat) (v : Value) : Bx3 w (wr.setCell ⟨g, k, none⟩ v) a b r :=
  ⟨Blk.far h.A (by show w.heap.size ≠ g; omega) _, Blk.far h.B (by show w.heap.size + 1 ≠ g; omega) _, Blk.far h.R (by show w.heap.size + 1 + 1 ≠ g; omega) _, h.bel.setCell (p := ⟨g, k, none⟩) (by show w.heap.size ≤ g; omega) _⟩
theorem Bx3.start (w : World) (a b : List Int) : Bx3 w (((w.alloc (.cells (agi a) 42)).alloc (.cells (agi b) 42)).alloc (.cells (agi Z8) 42)) a b Z8 := by
  have h1 := IB.new w 42 a
  have h2 := IB.new (w.alloc (.cells (agi a) 42)) 42 b
  have h3 := IB.new ((w.alloc (.cells (agi a) 42)).alloc (.cells (agi b) 42)) 42 Z8
  simp only [World.size_alloc] at h2 h3
  exact ⟨(Blk.alloc h1 _).alloc _, Blk.alloc h2 _, h3, (((Below.refl _ _).alloc (Nat.le_refl _) _).alloc (by simp) _).alloc (by simp; omega) _⟩

end Go.Proofs.Ytcfmipobgljbeaa

/- Two arrays of numbers that are the same. -/
namespace Go.Proofs.Ytcfmipobgljbeaa
set_option linter.unusedVariables false
set_option linter.unusedSimpArgs false
set_option maxRecDepth 100000
open Go.RowKit

theorem run_equalIn_agi (d : Nat) {t : TypeId} {n : Nat} (ht : Try.prog.underlying t = some (.array n 3)) (xs : List Int) (hl : xs.length = n) (w : World) :
    (Op.equalIn (d + 2) t (.agg (agi xs)) (.agg (agi xs))).run Try.prog w = .ok true w := by
  have hs : ∀ w, (sizeOf 3).run Try.prog w = .ok 1 w := fun w => by kernel_rfl
  have ha : ∀ w, (isAgg 3).run Try.prog w = .ok false w := fun w => by kernel_rfl
  rw [Op.equalIn]
  simp only [Sem.run_bind, run_underlying ht, Result.andThen_ok, hs, Std.Legacy.Range.forIn_eq_forIn_range', Std.Legacy.Range.size, Nat.sub_zero, Nat.add_sub_cancel, Nat.div_one]
  have hl2 : ∀ i ∈ List.range' 0 n 1, i < n := fun i hi => by simpa using (List.mem_range'_1.1 hi).2
  generalize List.range' 0 n 1 = l at hl2 ⊢
  induction l with
  | nil => simp
  | cons i l ih =>
    have hi : i < n := hl2 i (by simp)
    have px : (part 3 (agi xs) (i * 1)).run Try.prog w = .ok (.int .i64 (xs.getD i 0)) w := by
      have hg := agi_get xs i (by omega)
      simp [part, ha, hg]
    have pe : (Op.equalIn (d + 1) 3 (.int .i64 (xs.getD i 0)) (.int .i64 (xs.getD i 0))).run Try.prog w = .ok true w := by
      rw [run_equalIn_int w d 3 .i64 .i64 _ _ Try.underlying3]
      simp
    simp only [List.forIn_cons, Sem.run_bind, px, pe, Result.andThen_ok]
    simp only [Bool.not_true, Bool.false_eq_true, if_false, Sem.run_pure, Result.andThen_ok]
    exact ih fun j hj => hl2 j (by simp [hj])

theorem run_eql_agi {t : TypeId} {n : Nat} (ht : Try.prog.underlying t = some (.array n 3)) (xs : List Int) (hl : xs.length = n) (w : World) :
    (binOp .eql t (.agg (agi xs)) (.agg (agi xs))).run Try.prog w = .ok (.bool true) w := by
  rw [run_eql_struct, run_equalIn_agi 9998 ht xs hl w]
  rfl

/-! An array laid into a new block. -/
theorem Blk.stored {w : World} {g : Nat} {t : TypeId} {cs c2 : Array Value} (h : Blk w g t cs) (o : Obj) : Blk ((w.alloc o).setRow w.heap.size c2) g t cs :=
  Blk.rowFar (Blk.alloc h o) (by have := Blk.lt h; omega)
theorem IB.stored (w : World) (t : TypeId) (zs ys : List Int) : IB ((w.alloc (.cells (agi zs) t)).setRow w.heap.size (agi ys)) w.heap.size t ys := (IB.new w t zs).setRow ys
theorem below_stored (w : World) (o : Obj) (c2 : Array Value) : Below w.heap.size w ((w.alloc o).setRow w.heap.size c2) :=
  below_setRow ((Below.refl _ w).alloc (Nat.le_refl _) o) (Nat.le_refl _) c2
end Go.Proofs.Ytcfmipobgljbeaa

/- The walks of Expand, the program's and the reference's, and of the law LpcExpands. -/
namespace Go.Proofs.Ytcfmipobgljbeaa
set_option linter.unusedVariables false
set_option linter.unusedSimpArgs false
set_option maxRecDepth 100000
open Go.RowKit

def Exps (w : World) (a : List Int) (g : Int) (e : Ending) (w' : World) : Prop := e = .returned (.tuple #[.agg (agi (exL a g)), .int .i64 (errOf (exB a g))]) ∧ Below w.heap.size w w'
theorem exp_bad {w w' : World} {a : List Int} {g : Int} (h : exB a g = false) (hB : Below w.heap.size w w') : Exps w a g (.returned (.tuple #[.agg (agi Z9), .int .i64 2])) w' := by
  refine ⟨?_, hB⟩
  unfold exL errOf
  rw [h]
  rfl
theorem exp_good {w w' : World} {a ys : List Int} {g : Int} (h : exB a g = true) (hl : ys.length = 9) (hy : ∀ j, j < 9 → ys.getD j 0 = exE a g j) (hB : Below w.heap.size w w') : Exps w a g (.returned (.tuple #[.agg (agi ys), .int .i64 0])) w' := by
  refine ⟨?_, hB⟩
  have e : ys = exL a g := by
    apply list_ext (by rw [hl, exL_len])
    intro j hj
    rw [hy j (by omega)]
    unfold exL
    rw [if_pos h, List.getD_eq_getElem?_getD, List.getElem?_map, List.getElem?_range (by omega)]
    rfl
  unfold errOf
  rw [h, e]
  rfl
theorem okA_yes {x : Int} (h1 : -1073741824 ≤ x) (h2 : x ≤ 1073741824) : okA x = true := by unfold okA; simp; omega
theorem okA_no {x : Int} (h : x < -1073741824 ∨ 1073741824 < x) : okA x = false := by unfold okA; simp; omega
theorem exB_g {a : List Int} {g : Int} (h : g < 0 ∨ 32768 < g) : exB a g = false := by unfold exB; simp; omega
theorem exB_a {a : List Int} {g : Int} {k : Nat} (hk : k < a.length) (h : a.getD k 0 < -1073741824 ∨ 1073741824 < a.getD k 0) : exB a g = false := by
  unfold exB; rw [all_no hk (okA_no h)]; simp
theorem exB_yes {a : List Int} {g : Int} (h0 : 0 ≤ g) (h1 : g ≤ 32768) (h : allTo okA a 9) (hl : a.length = 9) : exB a g = true := by
  unfold exB; rw [h.all (by omega)]; simp; omega
theorem ex_prod {x f : Int} (h1 : -1073741824 ≤ x) (h2 : x ≤ 1073741824) (h3 : 0 ≤ f) (h4 : f ≤ 32768) : -35184372088832 ≤ x * f ∧ x * f ≤ 35184372088832 := by
  have := mul_bound (x := x) (X := 1073741824) (y := f) (Y := 32768) (by omega) (by omega) ⟨by omega, by omega⟩ ⟨by omega, by omega⟩
  omega
theorem ex_fprod {f g : Int} (h1 : 0 ≤ f) (h2 : f ≤ 32768) (h3 : 0 ≤ g) (h4 : g ≤ 32768) : 0 ≤ f * g ∧ f * g ≤ 1073741824 := by
  have := mul_bound (x := f) (X := 32768) (y := g) (Y := 32768) (by omega) (by omega) ⟨by omega, by omega⟩ ⟨by omega, by omega⟩
  have := Int.mul_nonneg h1 h3
  omega

/-- The argument's box, the answer's, what lies below untouched. -/
structure Bx2 (t : TypeId) (w wr : World) (a r : List Int) : Prop where
  A : IB wr w.heap.size t a
  R : IB wr (w.heap.size + 1) 23 r
  bel : Below w.heap.size w wr
theorem Bx2.lt {t : TypeId} {w wr : World} {a r : List Int} (h : Bx2 t w wr a r) : w.heap.size + 1 < wr.heap.size := Blk.lt h.R
theorem Bx2.below {t : TypeId} {w wr wr' : World} {a r : List Int} (h : Bx2 t w wr a r) (hb : Below wr.heap.size wr wr') : Bx2 t w wr' a r :=
  ⟨Blk.below' h.A hb, Blk.below' h.R hb, h.bel.trans (hb.mono (by have := h.lt; omega))⟩
theorem Bx2.setCell {t : TypeId} {w wr : World} {a r : List Int} (h : Bx2 t w wr a r) {g : Nat} (hg : w.heap.size + 1 < g) (k : Nat) (v : Value) : Bx2 t w (wr.setCell ⟨g, k, none⟩ v) a r :=
  ⟨Blk.far h.A (by show w.heap.size ≠ g; omega) _, Blk.far h.R (by show w.heap.size + 1 ≠ g; omega) _, h.bel.setCell (p := ⟨g, k, none⟩) (by show w.heap.size ≤ g; omega) _⟩
theorem Bx2.setA {t : TypeId} {w wr : World} {a r : List Int} (h : Bx2 t w wr a r) (k : Nat) (v : Int) : Bx2 t w (wr.setCell ⟨w.heap.size, k, none⟩ (.int .i64 v)) (a.set k v) r :=
  ⟨IB.set_ h.A k v, Blk.far h.R (by show w.heap.size + 1 ≠ w.heap.size; omega) _, h.bel.setCell (p := ⟨w.heap.size, k, none⟩) (Nat.le_refl _) _⟩
theorem Bx2.drew {t : TypeId} {w wr : World} {a r : List Int} (h : Bx2 t w wr a r) : Bx2 t w wr.drew a r := ⟨h.A, h.R, h.bel.drew⟩
theorem Bx2.start (t : TypeId) (w : World) (a : List Int) : Bx2 t w ((w.alloc (.cells (agi a) t)).alloc (.cells (agi Z9) 23)) a Z9 := by
  have h1 := IB.new w t a
  have h2 := IB.new (w.alloc (.cells (agi a) t)) 23 Z9
  simp only [World.size_alloc] at h2
  exact ⟨Blk.alloc h1 _, h2, (((Below.refl _ _).alloc (Nat.le_refl _) _).alloc (by simp) _)⟩

set_option maxHeartbeats 4000000 in
theorem expand_any (a : List Int) (g : Int) (w : World) (ha : a.length = 9) : Calls Try.prog 59 #[.agg (agi a), .int .i64 g] w (Exps w a g) := by
  have I0 := hid (Bx2.start 23 w a)
  have hR := results_row2 (fn := Try.f59) (p := 4) (q := 5) (ty := 23) rfl
  have HA := hid ha
  by_cases h1 : g < 0 ∨ 32768 < g
  · have FIN := hid (exp_bad (a := a) (g := g) (exB_g h1) (below_setRow I0.out.bel (g := w.heap.size + 1) (by omega) (agi Z9)))
    have hRow2 := hid (I0.out.R.setRow Z9)
    clear ha
    rcases h1 with h1 | h1
    · have d1 : decide (g < 0) = true := by simpa using h1
      go_enter Try.func59, Try.ntmps59
      go_wp2_with (refine wpList_storeI rfl 23 (.tmp 4) (.tmp 14) rfl _ 23 Z9 Z9 9 rfl rfl I0.out.R size9 rfl rfl ?_)
      refine bodyPost_ret (v := _) (hR _ _ _ 23 Z9 _ 9 rfl hRow2.out Try.underlying23 rfl size9 rfl) rfl ?_
      exact FIN.out
    · have d1 : decide (g < 0) = false := by simp; omega
      have d2 : decide (32768 < g) = true := by simpa using h1
      go_enter Try.func59, Try.ntmps59
      go_wp2_with (refine wpList_storeI rfl 23 (.tmp 4) (.tmp 14) rfl _ 23 Z9 Z9 9 rfl rfl I0.out.R size9 rfl rfl ?_)
      refine bodyPost_ret (v := _) (hR _ _ _ 23 Z9 _ 9 rfl hRow2.out Try.underlying23 rfl size9 rfl) rfl ?_
      exact FIN.out
  · have h0 : 0 ≤ g := by omega
    have h4 : g ≤ 32768 := by omega
    have d1 : decide (g < 0) = false := by simp; omega
    have d2 : decide (32768 < g) = false := by simp; omega
    have FX := hid (fun k => exF_range h0 h4 k)
    rw [z9_eq] at I0
    clear h1 ha
    go_enter Try.func59, Try.ntmps59
    go_wp2
    go_loopw [6, 15] (fun fv iv wr => ∃ (k : Nat) (ys : List Int) (f : Int), k ≤ 9 ∧ iv = .int .i64 k ∧ fv = .int .i64 f ∧ Hid (f = exF g k ∧ ys.length = 9 ∧ allTo okA a k ∧ (∀ j, j < k → ys.getD j 0 = exE a g j) ∧ ∀ j, k ≤ j → ys.getD j 0 = a.getD j 0) ∧ Hid (Bx2 23 w wr ys Z9)) (fun _ iv _ => 9 - (intOf iv).toNat)
    case atStart => exact ⟨0, a, 32768, by omega, rfl, rfl, hid ⟨rfl, HA.out, allTo.zero, fun j h => by omega, fun j _ => rfl⟩, I0⟩
    case round =>
      clear I0
      obtain ⟨k, ys, f, hk, rfl, rfl, HY, HI⟩ := hrel
      obtain ⟨f0, f1⟩ := FX.out k
      rw [← HY.out.1] at f0 f1
      by_cases hlt : k < 9
      · have ca := HI.out.A.cell k (by rw [HY.out.2.1]; exact hlt)
        have fa := Blk.frozen HI.out.A k
        rw [HY.out.2.2.2.2 k (Nat.le_refl _)] at ca
        obtain ⟨x, hx⟩ : ∃ x, x = a.getD k 0 := ⟨_, rfl⟩
        rw [← hx] at ca
        have HX := hid hx
        clear hx
        by_cases hbad : x < -1073741824 ∨ 1073741824 < x
        · have FIN := hid (exp_bad (a := a) (g := g) (exB_a (k := k) (by rw [HA.out]; exact hlt) (by rw [← HX.out]; exact hbad)) (below_setRow HI.out.bel (g := w.heap.size + 1) (by omega) (agi Z9)))
          have hRow := hid (HI.out.R.setRow Z9)
          rcases hbad with b1 | b1
          · go_wp2_with (refine wpList_storeI rfl 23 (.tmp 4) (.tmp 28) rfl _ 23 Z9 Z9 9 rfl rfl HI.out.R size9 rfl rfl ?_)
            refine bodyPost_ret (v := _) (hR _ _ _ 23 Z9 _ 9 rfl hRow.out Try.underlying23 rfl size9 rfl) rfl ?_
            exact FIN.out
          · have b0 : ¬ x < -1073741824 := by omega
            go_wp2_with (refine wpList_storeI rfl 23 (.tmp 4) (.tmp 28) rfl _ 23 Z9 Z9 9 rfl rfl HI.out.R size9 rfl rfl ?_)
            refine bodyPost_ret (v := _) (hR _ _ _ 23 Z9 _ 9 rfl hRow.out Try.underlying23 rfl size9 rfl) rfl ?_
            exact FIN.out
        · have b1 : -1073741824 ≤ x := by omega
          have b2 : x ≤ 1073741824 := by omega
          obtain ⟨m1, m2⟩ := ex_prod b1 b2 f0 f1
          obtain ⟨m3, m4⟩ := ex_fprod f0 f1 h0 h4
          have NEXT := hid (show Hid ((f * g + 16384) / 32768 = exF g (k + 1) ∧ (ys.set k ((x * f + 16384) / 32768)).length = 9 ∧ allTo okA a (k + 1) ∧ (∀ j, j < k + 1 → (ys.set k ((x * f + 16384) / 32768)).getD j 0 = exE a g j) ∧ ∀ j, k + 1 ≤ j → (ys.set k ((x * f + 16384) / 32768)).getD j 0 = a.getD j 0) from by
            obtain ⟨q0, q1, q2, q3, q4⟩ := HY.out
            refine ⟨by rw [q0]; rfl, by simpa using q1, q2.succ (by rw [← HX.out]; exact okA_yes b1 b2), fun j hj => ?_, fun j hj => ?_⟩
            · by_cases he : k = j
              · subst he
                rw [get_set_same _ _ _ (by omega), exE, ← HX.out, ← q0]
              · rw [get_set_other _ _ he]
                exact q3 j (by omega)
            · rw [get_set_other _ _ (by omega)]
              exact q4 j (by omega))
          have NI := hid (HI.out.setA k ((x * f + 16384) / 32768))
          clear hbad
          go_wp2
          go_roundw
          case rel => exact ⟨k + 1, _, _, by omega, by go_num, rfl, NEXT.out, NI⟩
          case measure => simp [intOf] <;> omega
      · obtain rfl : k = 9 := by omega
        have hg := exB_yes h0 h4 HY.out.2.2.1 HA.out
        have FIN := hid (exp_good hg HY.out.2.1 HY.out.2.2.2.1 (below_setRow HI.out.bel (g := w.heap.size + 1) (by omega) (agi ys)))
        have hRow := hid (HI.out.R.setRow ys)
        clear hlt hg
        go_wp2_with (first
          | (refine wpList_loadI rfl 23 (.tmp 2) rfl _ 23 ys 9 _ rfl HI.out.A Try.underlying23 rfl size9 HY.out.2.1 ?_)
          | (refine wpList_storeI rfl 23 (.tmp 4) (.tmp 44) rfl _ 23 Z9 ys 9 rfl rfl HI.out.R size9 rfl HY.out.2.1 ?_))
        refine bodyPost_ret (v := _) (hR _ _ _ 23 ys _ 9 rfl hRow.out Try.underlying23 rfl size9 HY.out.2.1) rfl ?_
        exact FIN.out
end Go.Proofs.Ytcfmipobgljbeaa

/- The walk of package synth's good, guess and push. -/
namespace Go.Proofs.Ytcfmipobgljbeaa
set_option linter.unusedVariables false
set_option linter.unusedSimpArgs false
set_option maxRecDepth 100000
open Go.RowKit

set_option maxHeartbeats 4000000 in
theorem synthgood_any (a p l : List Int) (A : Option Addr) (c n B : Nat) (w : World) (ha : a.length = 9) (hp : p.length = 8) (hr : Rs w w.heap.size A l) (hn : l.length = n) (hl : n ≤ 17592186044416) :
    Calls Try.prog 112 #[.agg (agi a), .agg (agi p), .slice A n c] w (AnsB w (goodF a p l)) := by
  have hI := hid (IB.new w 23 a)
  have hJ := IB.new (w.alloc (.cells (agi a) 23)) 42 p
  simp only [World.size_alloc] at hJ
  have hJ := hid hJ
  have hI := hid (Blk.alloc hI.out (.cells (agi p) 42))
  have HA := hid ha
  have HP := hid hp
  have HN := hid hn
  have HR := hid (hr.below (((Below.refl _ w).alloc (Nat.le_refl _) (.cells (agi a) 23)).alloc (by simp) (.cells (agi p) 42)))
  have HB := hid (((Below.refl _ w).alloc (Nat.le_refl _) (.cells (agi a) 23)).alloc (by simp) (.cells (agi p) 42))
  have hix := fun (k : Nat) (hk : k < 9) (w : World) => run_index_agi Try.underlying23 a ha k hk w
  have HIX := hid hix
  have hjx := fun (k : Nat) (hk : k < 8) (w : World) => run_index_agi Try.underlying42 p hp k hk w
  have HJX := hid hjx
  clear ha hp hn hr hix hjx
  have c0 := IB.cell hI.out 0 (by rw [HA.out]; omega)
  obtain ⟨a0, ha0⟩ : ∃ a0, a0 = a.getD 0 0 := ⟨_, rfl⟩
  rw [← ha0] at c0
  have HA0 := hid ha0
  have C0 := hid c0
  clear ha0 c0
  go_enter Try.func112, Try.ntmps112
  go_wp2_with (refine wpList_loadI rfl 23 (.tmp 3) rfl _ 23 a 9 _ rfl hI.out Try.underlying23 rfl size9 HA.out ?_)
  go_loop [14] (fun iv => ∃ k : Nat, k ≤ 9 ∧ iv = .int .i64 k ∧ Hid (allTo okP1 a k)) (fun iv => 9 - (intOf iv).toNat)
  case atStart => exact ⟨0, by omega, rfl, hid allTo.zero⟩
  case round =>
    obtain ⟨k, hk, rfl, HY⟩ := hrel
    by_cases hlt : k < 9
    · have hix := HIX.out k hlt
      obtain ⟨x, hx⟩ : ∃ x, x = a.getD k 0 := ⟨_, rfl⟩
      rw [← hx] at hix
      have HX := hid hx
      clear hx
      by_cases b1 : x < -1048576
      · have HF := hid (show okP a = false from all_no (i := k) (by rw [HA.out]; exact hlt) (okP1_no (by rw [← HX.out]; exact .inl b1)))
        go_wp2
        go_ret
        exact ⟨by unfold goodF; rw [HF.out]; rfl, HB.out⟩
      by_cases b2 : 1048576 < x
      · have HF := hid (show okP a = false from all_no (i := k) (by rw [HA.out]; exact hlt) (okP1_no (by rw [← HX.out]; exact .inr b2)))
        go_wp2
        go_ret
        exact ⟨by unfold goodF; rw [HF.out]; rfl, HB.out⟩
      have HN2 := hid (HY.out.succ (by rw [← HX.out]; exact okP1_yes (by omega) (by omega)))
      go_wp2
      go_round
      case rel => exact ⟨k + 1, by omega, by go_num, HN2⟩
      case measure => simp [intOf] <;> omega
    · obtain rfl : k = 9 := by omega
      have HF9 := hid (show okP a = true from HY.out.all (by rw [HA.out]; exact Nat.le_refl _))
      clear hlt HY
      go_wp2_with (refine wpList_loadI rfl 42 (.tmp 4) rfl _ 42 p 8 _ rfl hJ.out Try.underlying42 rfl size8 HP.out ?_)
      go_loop [25] (fun iv => ∃ k : Nat, k ≤ 8 ∧ iv = .int .i64 k ∧ Hid (allTo ok16 p k)) (fun iv => 8 - (intOf iv).toNat)
      case atStart => exact ⟨0, by omega, rfl, hid allTo.zero⟩
      case round =>
        obtain ⟨k, hk, rfl, HY⟩ := hrel
        by_cases hlt : k < 8
        · have hix := HJX.out k hlt
          obtain ⟨x, hx⟩ : ∃ x, x = p.getD k 0 := ⟨_, rfl⟩
          rw [← hx] at hix
          have HX := hid hx
          clear hx
          by_cases hbad : x < -32768 ∨ 32767 < x
          · have HF := hid (show all16 p = false from all_no (i := k) (by rw [HP.out]; exact hlt) (ok16_no (by rw [← HX.out]; exact hbad)))
            have e1 : (x == s16 x) = false := by rw [beq_eq_false_iff_ne]; exact fun h => s16_ne hbad h.symm
            have e2 : (x != s16 x) = true := by rw [bne_iff_ne]; exact fun h => s16_ne hbad h.symm
            clear hbad
            go_wp2_with (go_at_call 113; refine (synthsat_any _ _).mono ?_; rintro e w' ⟨rfl, rfl⟩)
            go_ret
            exact ⟨by unfold goodF; rw [HF.out]; simp, HB.out⟩
          · have HN2 := hid (HY.out.succ (by rw [← HX.out]; exact ok16_yes (by omega) (by omega)))
            have e0 := s16_id (x := x) (by omega) (by omega)
            clear hbad
            go_wp2_with (go_at_call 113; refine (synthsat_any _ _).mono ?_; rintro e w' ⟨rfl, rfl⟩)
            go_round
            case rel => exact ⟨k + 1, by omega, by go_num, HN2⟩
            case measure => simp [intOf] <;> omega
        · obtain rfl : k = 8 := by omega
          have HF8 := hid (show all16 p = true from HY.out.all (by rw [HP.out]; exact Nat.le_refl _))
          clear hlt HY
          go_wp2
          go_loop [35] (fun iv => ∃ k : Nat, k ≤ n ∧ iv = .int .i64 k ∧ Hid (allTo ok16 l k)) (fun iv => n - (intOf iv).toNat)
          case atStart => exact ⟨0, by omega, rfl, hid allTo.zero⟩
          case round =>
            obtain ⟨k, hk, rfl, HY⟩ := hrel
            by_cases hlt : k < n
            · obtain ⟨ad, rfl, _, c1⟩ := HR.out.at_ (k := k) (by rw [HN.out]; exact hlt)
              obtain ⟨x, hx⟩ : ∃ x, x = l.getD k 0 := ⟨_, rfl⟩
              rw [← hx] at c1
              have HX := hid hx
              clear hx
              by_cases hbad : x < -32768 ∨ 32767 < x
              · have HF := hid (show all16 l = false from all_no (i := k) (by rw [HN.out]; exact hlt) (ok16_no (by rw [← HX.out]; exact hbad)))
                have e1 : (x == s16 x) = false := by rw [beq_eq_false_iff_ne]; exact fun h => s16_ne hbad h.symm
                have e2 : (x != s16 x) = true := by rw [bne_iff_ne]; exact fun h => s16_ne hbad h.symm
                clear hbad
                go_wp2_with (go_at_call 113; refine (synthsat_any _ _).mono ?_; rintro e w' ⟨rfl, rfl⟩)
                go_ret
                exact ⟨by unfold goodF; rw [HF.out]; simp, HB.out⟩
              · have HN2 := hid (HY.out.succ (by rw [← HX.out]; exact ok16_yes (by omega) (by omega)))
                have e0 := s16_id (x := x) (by omega) (by omega)
                clear hbad
                go_wp2_with (go_at_call 113; refine (synthsat_any _ _).mono ?_; rintro e w' ⟨rfl, rfl⟩)
                go_round
                case rel => exact ⟨k + 1, by omega, by go_num, HN2⟩
                case measure => simp [intOf] <;> omega
            · have HF := hid (show all16 l = true from HY.out.all (by rw [HN.out]; omega))
              have c0 := C0.out
              go_wp2
              go_ret
              exact ⟨by unfold goodF; rw [HF9.out, HF8.out, HF.out, ← HA0.out]; simp only [Bool.true_and, Bool.and_true]; rfl, HB.out⟩

set_option maxHeartbeats 2000000 in
theorem synthguess_any (a p : List Int) (w : World) (ha : a.length = 9) (hp : p.length = 8) (oa : okP a = true) (op : all16 p = true) :
    Calls Try.prog 114 #[.agg (agi a), .agg (agi p)] w fun e w' => e = .returned (.int .i64 (guessL a p)) ∧ Below w.heap.size w w' := by
  have hI := hid (IB.new w 23 a)
  have hJ := IB.new (w.alloc (.cells (agi a) 23)) 42 p
  simp only [World.size_alloc] at hJ
  have hJ := hid hJ
  have hI := hid (Blk.alloc hI.out (.cells (agi p) 42))
  have HA := hid ha
  have HP := hid hp
  have HB := hid (((Below.refl _ w).alloc (Nat.le_refl _) (.cells (agi a) 23)).alloc (by simp) (.cells (agi p) 42))
  have hjx := fun (k : Nat) (hk : k < 8) (w : World) => run_index_agi Try.underlying42 p hp k hk w
  have HJX := hid hjx
  have OA := hid oa
  have OP := hid op
  clear ha hp hjx oa op
  go_enter Try.func114, Try.ntmps114
  go_wp2_with (refine wpList_loadI rfl 42 (.tmp 3) rfl _ 42 p 8 _ rfl hJ.out Try.underlying42 rfl size8 HP.out ?_)
  go_loop [5, 9] (fun sv iv => ∃ (k : Nat) (s : Int), k ≤ 8 ∧ iv = .int .i64 k ∧ sv = .int .i64 s ∧ Hid (s = 2048 + sumN (gterm a p) k)) (fun _ iv => 8 - (intOf iv).toNat)
  case atStart => exact ⟨0, 2048, by omega, rfl, rfl, hid rfl⟩
  case round =>
    obtain ⟨k, s, hk, rfl, rfl, HS⟩ := hrel
    by_cases hlt : k < 8
    · have hjx := HJX.out k hlt
      have ci := IB.cell hI.out (k + 1) (by rw [HA.out]; omega)
      have tb := gterm_bound OA.out OP.out k
      have sb := gsum_bound OA.out OP.out k
      have HT := hid (show 2048 + sumN (gterm a p) (k + 1) = s + gterm a p k by rw [HS.out]; simp only [sumN]; omega)
      have hs := HS.out
      have s1 : -300000000000 ≤ s := by omega
      have s2 : s ≤ 300000000000 := by omega
      clear hs sb
      unfold gterm at tb HT
      generalize a.getD (k + 1) 0 = x at *
      generalize p.getD k 0 = y at *
      obtain ⟨t1, t2⟩ := tb
      have HS2 := hid (show s + x * y = 2048 + sumN (fun i => a.getD (i + 1) 0 * p.getD i 0) (k + 1) from HT.out.symm)
      clear HT HS
      go_wp2
      go_round
      case rel => exact ⟨k + 1, _, by omega, by go_num, rfl, HS2⟩
      case measure => simp [intOf] <;> omega
    · obtain rfl : k = 8 := by omega
      have HF := hid (show s / 4096 = guessL a p by unfold guessL; rw [HS.out])
      go_wp2
      go_ret
      exact ⟨by rw [← HF.out]; rfl, HB.out⟩
end Go.Proofs.Ytcfmipobgljbeaa

/- The walk of package synth's push. -/
namespace Go.Proofs.Ytcfmipobgljbeaa
set_option linter.unusedVariables false
set_option linter.unusedSimpArgs false
set_option maxRecDepth 100000
open Go.RowKit

set_option maxHeartbeats 2000000 in
theorem synthpush_any (p : List Int) (x : Int) (w : World) (hp : p.length = 8) :
    Calls Try.prog 115 #[.agg (agi p), .int .i64 x] w fun e w' => e = .returned (.agg (agi (pushL p x))) ∧ Below w.heap.size w w' := by
  have hR := results_row1 (fn := Try.f115) (p := 4) (ty := 42) rfl
  have I0 := IB.new w 42 p
  have HA := hid (Blk.alloc I0 (.cells (agi Z8) 42))
  have J0 := IB.new (w.alloc (.cells (agi p) 42)) 42 Z8
  simp only [World.size_alloc] at J0
  have HJ := hid J0
  have HB := hid (((Below.refl _ w).alloc (Nat.le_refl _) (.cells (agi p) 42)).alloc (by simp) (.cells (agi Z8) 42))
  rw [z8_eq] at HA HJ HB
  have HP := hid hp
  have hl7 : (p.take 7).length = 7 := by simp [hp]
  have L7 := hid hl7
  obtain ⟨zs, hz⟩ : ∃ zs, zs = p.take 1 ++ p.take 7 ++ p.drop (1 + (p.take 7).length) := ⟨_, rfl⟩
  have hzs : zs.set 0 x = pushL p x := by
    rw [hz, hl7]
    have e8 : p.drop 8 = [] := List.drop_eq_nil_of_le (by omega)
    rw [e8]
    match p, hp with
    | a :: q, _ => simp [pushL]
  have hzl : zs.length = 8 := by rw [hz, hl7]; simp; omega
  have HZ := hid hz
  have HZS := hid hzs
  have HZL := hid hzl
  have c7 : ∀ j, j < 7 → (p.take 7).getD j 0 = p.getD j 0 := fun j hj => by simp [hj]
  have C7 := hid c7
  clear hp hl7 hz hzs hzl c7 I0 J0
  go_enter Try.func115, Try.ntmps115
  go_wp2
  go_region_law (refine step_copyI rfl (.tmp 5) (.tmp 6) 22 22 rfl Try.underlying22 w.heap.size 1 7 7 ⟨w.heap.size, 0, none⟩ 7 8 (by simp [Act.eval, Act.put]) (by simp [Act.eval, Act.put]) 42 p (p.take 7) zs HA.out (by rw [L7.out]; rfl) (fun j hj => by rw [add_zero']; rw [L7.out] at hj; rw [C7.out j hj]; exact IB.cell HA.out j (by rw [HP.out]; omega)) (by rw [L7.out, HP.out]; omega) HZ.out ?_)
  generalize hw4 : World.setRow _ _ _ = w4
  have IA : IB w4 w.heap.size 42 zs := by rw [← hw4]; exact IB.setRow (Blk.drew HA.out) zs
  have IJ : IB w4 (w.heap.size + 1) 42 Z8 := by rw [← hw4]; exact Blk.rowFar (Blk.drew HJ.out) (by omega)
  have IL : Below w.heap.size w w4 := by rw [← hw4]; exact (Below.drew HB.out).trans (below_setRow (Below.refl _ _) (Nat.le_refl _) _)
  have IA := hid IA
  have IJ := hid IJ
  have IL := hid IL
  clear hw4 HA HJ HB
  have c0 := IB.cell IA.out 0 (by rw [HZL.out]; omega)
  have f0 := Blk.frozen IA.out 0
  have IA2 := hid (show IB (w4.setCell ⟨w.heap.size, 0, none⟩ (.int .i64 x)) w.heap.size 42 (pushL p x) by rw [← HZS.out]; exact IB.set_ IA.out 0 x)
  have IJ2 := hid (show IB (w4.setCell ⟨w.heap.size, 0, none⟩ (.int .i64 x)) (w.heap.size + 1) 42 Z8 from Blk.far IJ.out (by show w.heap.size + 1 ≠ w.heap.size; omega) _)
  have IL2 := hid (IL.out.setCell (p := ⟨w.heap.size, 0, none⟩) (Nat.le_refl _) (.int .i64 x))
  have LP := hid (pushL_len HP.out x)
  have FIN := hid (below_setRow IL2.out (g := w.heap.size + 1) (by omega) (agi (pushL p x)))
  have hRow := hid (IB.setRow IJ2.out (pushL p x))
  go_wp2_with (first
    | (refine wpList_loadI rfl 42 (.tmp 2) rfl _ 42 (pushL p x) 8 _ rfl IA2.out Try.underlying42 rfl size8 LP.out ?_)
    | (refine wpList_storeI rfl 42 (.tmp 4) (.tmp 10) rfl _ 42 Z8 (pushL p x) 8 rfl rfl IJ2.out size8 rfl LP.out ?_))
  refine bodyPost_ret (v := _) (hR _ _ _ 42 (pushL p x) _ 8 rfl hRow.out Try.underlying42 rfl size8 LP.out) rfl ?_
  exact ⟨rfl, FIN.out⟩
end Go.Proofs.Ytcfmipobgljbeaa

/- The walks of Past, the program's and the reference's. -/
namespace Go.Proofs.Ytcfmipobgljbeaa
set_option linter.unusedVariables false
set_option linter.unusedSimpArgs false
set_option maxRecDepth 100000
open Go.RowKit

/-- What a function answers that gives new numbers and an error. -/
def NewSE (w : World) (xs : List Int) (er : Int) (e : Ending) (w' : World) : Prop := ∃ A c, e = .returned (.tuple #[.slice A xs.length c, .int .i64 er]) ∧ Own w' w.heap.size A c xs ∧ Below w.heap.size w w'
theorem NewSE.none_ {w w' : World} {er : Int} (hB : Below w.heap.size w w') : NewSE w [] er (.returned (.tuple #[.slice none 0 0, .int .i64 er])) w' := ⟨none, 0, rfl, Own.nil, hB⟩

set_option maxHeartbeats 4000000 in
theorem past_any (h : List Int) (lag : Int) (w : World) (hl : h.length = 80) : Calls Try.prog 42 #[.agg (agi h), .int .i64 lag] w (NewSE w (pastL h lag) (errOf (pastB lag))) := by
  by_cases h1 : lag < 20 ∨ 79 < lag
  · rw [show pastL h lag = [] from by unfold pastL; rw [pastB_no h1]; rfl, pastB_no h1]
    have FIN := hid (NewSE.none_ (er := 2) ((Below.refl _ w).alloc (Nat.le_refl _) (.cells (agi h) 34)))
    rcases h1 with h1 | h1
    · have d1 : decide (lag < 20) = true := by simpa using h1
      go_enter Try.func42, Try.ntmps42
      go_wp2
      go_ret2
      exact FIN.out
    · have d1 : decide (lag < 20) = false := by simp; omega
      have d2 : decide (79 < lag) = true := by simpa using h1
      go_enter Try.func42, Try.ntmps42
      go_wp2
      go_ret2
      exact FIN.out
  · have hb : pastB lag = true := pastB_yes (by omega) (by omega)
    have hlen := pastL_len (h := h) hb
    obtain ⟨L, rfl⟩ := Int.eq_ofNat_of_zero_le (show 0 ≤ lag by omega)
    have hP := hid (fun j hj => pastL_get (h := h) hb j hj)
    rw [hb]
    have hL1 : 20 ≤ L := by omega
    have hL2 : L ≤ 79 := by omega
    obtain ⟨E, hE⟩ : ∃ E, E = 80 - L := ⟨_, rfl⟩
    have hEi : (80 : Int) - (L : Nat) = (E : Nat) := by omega
    have hE2 : E + L = 80 := by omega
    have A0 := hid (IB.new w 34 h)
    have d1 : decide ((L : Int) < 20) = false := by simp; omega
    have d2 : decide (79 < (L : Int)) = false := by simp; omega
    have HL := hid hl
    have HN := hid hlen
    have HE := hid hE
    clear h1 hb hl hlen hE
    go_enter Try.func42, Try.ntmps42
    go_wp2_with (at_make; refine wpList_makeI rfl _ _ rfl .i64 .i64 40 rfl rfl w.heap.size (by omega) (by simp) ?_; intro w1 hO hG; have O1 := hid hO; have A1 := hid (Blk.grown A0.out hG (by simp)); have B1 := hid (((Below.refl w.heap.size w).alloc (Nat.le_refl _) (.cells (agi h) 34)).grown hG (by simp) (by simp)); clear hO hG)
    simp only [World.size_alloc] at O1
    go_loopw [17] (fun iv wr => ∃ (k : Nat) (ys : List Int), k ≤ 40 ∧ iv = .int .i64 k ∧ Hid (ys.length = 40 ∧ ∀ j, j < k → ys.getD j 0 = pastE h L j) ∧ Hid (Own wr w.heap.size (some ⟨w.heap.size + 1, 0, none⟩) 40 ys) ∧ Hid (IB wr w.heap.size 34 h) ∧ Hid (Below w.heap.size w wr)) (fun iv _ => 40 - (intOf iv).toNat)
    case atStart => exact ⟨0, _, by omega, rfl, hid ⟨by simp, fun j h => by omega⟩, O1, A1, B1⟩
    case round =>
      clear O1 A1 B1
      obtain ⟨k, ys, hk, rfl, HY, HO, HA, HB⟩ := hrel
      by_cases hlt : k < 40
      · have co := HO.out.cell k (by rw [HY.out.1]; exact hlt)
        have fo := HO.out.frozen k
        have NO := hid (fun v => HO.out.set_ k (by rw [HY.out.1]; exact hlt) v)
        have NA := hid (fun v => Blk.far HA.out (p := ⟨w.heap.size + 1, k, none⟩) (by show w.heap.size ≠ w.heap.size + 1; omega) v)
        have NB := hid (fun v => HB.out.setCell (p := ⟨w.heap.size + 1, k, none⟩) (by show w.heap.size ≤ w.heap.size + 1; omega) v)
        have NEXT := hid (fun (v : Int) (hv : v = pastE h L k) => show Hid ((ys.set k v).length = 40 ∧ ∀ j, j < k + 1 → (ys.set k v).getD j 0 = pastE h L j) from by
          obtain ⟨q1, q3⟩ := HY.out
          refine ⟨by simpa using q1, fun j hj => ?_⟩
          by_cases he : k = j
          · subst he
            rw [get_set_same _ _ _ (by omega), hv]
          · rw [get_set_other _ _ he]
            exact q3 j (by omega))
        by_cases hlow : k < L
        · have ci := HA.out.cell (E + k) (by rw [HL.out]; omega)
          have hEk : E + k < 80 := by omega
          have HV := hid (show h.getD (E + k) 0 = pastE h L k by rw [pastE_low hlow, ← HE.out])
          generalize h.getD (E + k) 0 = x at *
          go_wp2
          go_roundw
          case rel => exact ⟨k + 1, _, by omega, by go_num, NEXT.out _ HV.out, NO.out _, hid (NA.out _), hid (NB.out _)⟩
          case measure => simp [intOf] <;> omega
        · obtain ⟨d, hd⟩ : ∃ d, k = L + d := ⟨k - L, by omega⟩
          have hsub : (k : Int) - (L : Nat) = (d : Nat) := by omega
          have cd := HO.out.cell d (by rw [HY.out.1]; omega)
          have hd40 : d < 40 := by omega
          have HV := hid (show ys.getD d 0 = pastE h L k by rw [HY.out.2 d (by omega), pastE_high (h := h) (lag := L) (i := k) (by omega), show k - L = d from by omega])
          have HD := hid hd
          clear hd
          generalize ys.getD d 0 = x at *
          go_wp2
          go_roundw
          case rel => exact ⟨k + 1, _, by omega, by go_num, NEXT.out _ HV.out, NO.out _, hid (NA.out _), hid (NB.out _)⟩
          case measure => simp [intOf] <;> omega
      · obtain rfl : k = 40 := by omega
        have HF := hid (show ys = pastL h (L : Nat) from list_ext (by rw [HY.out.1, HN.out]) (fun j hj => by rw [HY.out.2 j (by rw [HY.out.1] at hj; exact hj), hP.out j (by rw [HY.out.1] at hj; exact hj)]; rfl))
        go_wp2
        go_ret2
        exact ⟨_, _, by rw [HN.out]; rfl, by rw [← HF.out]; exact HO.out, HB.out⟩
end Go.Proofs.Ytcfmipobgljbeaa

/- The walks of package synth's Make and Undo. -/
namespace Go.Proofs.Ytcfmipobgljbeaa
set_option linter.unusedVariables false
set_option linter.unusedSimpArgs false
set_option maxRecDepth 100000
open Go.RowKit

/-- The answer: a slice, an array in a block, a number. -/
theorem results_mid3 {fn : Func} {p q r : Tmp} {ty : TypeId} (h : fn.results = #[.tmp p, .cell q ty, .tmp r]) (tmps : Array Value) (w : World) (g : Nat) (t : TypeId) (xs : List Int) (d : TypeDesc) (n : Nat)
    (hp : tmps.getD q undef = .pointer (some ⟨g, 0, none⟩)) (hg : IB w g t xs) (hu : Try.prog.underlying ty = some d) (hd : isAggD d = true) (hi : (Try.prog.info? ty).map (·.size) = some n) (hl : xs.length = n) :
    (results fn tmps).run Try.prog w = .ok (.tuple #[tmps.getD p undef, .agg (agi xs), tmps.getD r undef]) w := by
  have hp' : tmps[q]?.getD undef = .pointer (some ⟨g, 0, none⟩) := by simpa using hp
  have hr := run_loadVar_row (P := Try.prog) w g t ty (agi xs) (0, 0) d hg hu (by cases d <;> first | rfl | (simp [isAggD] at hd)) (by rw [hi, agi_size, hl])
  simp [results, h, hp', asAddr, hr]

def NewSP (w : World) (ys q : List Int) (er : Int) (e : Ending) (w' : World) : Prop := ∃ A c, e = .returned (.tuple #[.slice A ys.length c, .agg (agi q), .int .i64 er]) ∧ Own w' w.heap.size A c ys ∧ Below w.heap.size w w'

/-- The three boxes: the predictor, the past, the answer's past. -/
structure Sx (w wr : World) (a q : List Int) : Prop where
  A : IB wr w.heap.size 23 a
  P : IB wr (w.heap.size + 1) 42 q
  R : IB wr (w.heap.size + 2) 42 Z8
  bel : Below w.heap.size w wr
theorem Sx.lt {w wr : World} {a q : List Int} (h : Sx w wr a q) : w.heap.size + 3 ≤ wr.heap.size := Blk.lt h.R
theorem Sx.below {w wr wr' : World} {a q : List Int} (h : Sx w wr a q) (hb : Below wr.heap.size wr wr') : Sx w wr' a q :=
  ⟨Blk.below' h.A hb, Blk.below' h.P hb, Blk.below' h.R hb, h.bel.trans (hb.mono (by have := h.lt; omega))⟩
theorem Sx.alloc {w wr : World} {a q : List Int} (h : Sx w wr a q) (o : Obj) : Sx w (wr.alloc o) a q :=
  ⟨Blk.alloc h.A o, Blk.alloc h.P o, Blk.alloc h.R o, h.bel.alloc (by have := h.lt; omega) o⟩
theorem Sx.setP {w wr : World} {a q : List Int} (h : Sx w wr a q) (q2 : List Int) : Sx w (wr.setRow (w.heap.size + 1) (agi q2)) a q2 :=
  ⟨Blk.rowFar h.A (by omega), IB.setRow h.P q2, Blk.rowFar h.R (by omega), below_setRow h.bel (by omega) _⟩
theorem Sx.drew {w wr : World} {a q : List Int} (h : Sx w wr a q) : Sx w wr.drew a q := ⟨h.A, h.P, h.R, h.bel.drew⟩
theorem Sx.start (w : World) (a q : List Int) : Sx w (((w.alloc (.cells (agi a) 23)).alloc (.cells (agi q) 42)).alloc (.cells (agi Z8) 42)) a q := by
  have h1 := IB.new w 23 a
  have h2 := IB.new (w.alloc (.cells (agi a) 23)) 42 q
  have h3 := IB.new ((w.alloc (.cells (agi a) 23)).alloc (.cells (agi q) 42)) 42 Z8
  simp only [World.size_alloc] at h2 h3
  exact ⟨Blk.alloc (Blk.alloc h1 _) _, Blk.alloc h2 _, h3, ((((Below.refl _ _).alloc (Nat.le_refl _) _).alloc (by simp) _).alloc (by simp; omega) _)⟩
theorem Sx.grown {w wr wr' : World} {a q xs : List Int} {A : Option Addr} {c : Nat} (h : Sx w wr a q) (hO : Own wr (w.heap.size + 3) A c xs) (hG : wr.grownBy wr' (A.map (·.block))) : Sx w wr' a q :=
  ⟨Blk.grownA h.A hG (hO.ne_ (by omega)), Blk.grownA h.P hG (hO.ne_ (by omega)), Blk.grownA h.R hG (hO.ne_ (by omega)),
    below_grown h.bel (hO.more (by omega)) hG (by have := h.lt; omega)⟩

theorem list8 {q : List Int} (h : q.length = 8) : ∃ q0 q1 q2 q3 q4 q5 q6 q7, q = [q0, q1, q2, q3, q4, q5, q6, q7] := by
  match q, h with
  | [a, b, c, d, e, f, g, i], _ => exact ⟨a, b, c, d, e, f, g, i, rfl⟩
theorem IB.set8 {w : World} {g : Nat} {t : TypeId} (h : IB w g t Z8) (q0 q1 q2 q3 q4 q5 q6 q7 : Int) :
    IB ((((((((w.setCell ⟨g, 0, none⟩ (.int .i64 q0)).setCell ⟨g, 1, none⟩ (.int .i64 q1)).setCell ⟨g, 2, none⟩ (.int .i64 q2)).setCell ⟨g, 3, none⟩ (.int .i64 q3)).setCell ⟨g, 4, none⟩ (.int .i64 q4)).setCell ⟨g, 5, none⟩ (.int .i64 q5)).setCell ⟨g, 6, none⟩ (.int .i64 q6)).setCell ⟨g, 7, none⟩ (.int .i64 q7)) g t [q0, q1, q2, q3, q4, q5, q6, q7] :=
  (((((((h.set_ 0 q0).set_ 1 q1).set_ 2 q2).set_ 3 q3).set_ 4 q4).set_ 5 q5).set_ 6 q6).set_ 7 q7
theorem below_set8 {w0 w : World} {B g : Nat} (h : Below B w0 w) (hg : B ≤ g) (q0 q1 q2 q3 q4 q5 q6 q7 : Int) :
    Below B w0 ((((((((w.setCell ⟨g, 0, none⟩ (.int .i64 q0)).setCell ⟨g, 1, none⟩ (.int .i64 q1)).setCell ⟨g, 2, none⟩ (.int .i64 q2)).setCell ⟨g, 3, none⟩ (.int .i64 q3)).setCell ⟨g, 4, none⟩ (.int .i64 q4)).setCell ⟨g, 5, none⟩ (.int .i64 q5)).setCell ⟨g, 6, none⟩ (.int .i64 q6)).setCell ⟨g, 7, none⟩ (.int .i64 q7)) :=
  (((((((h.setCell (p := ⟨g, 0, none⟩) hg _).setCell (p := ⟨g, 1, none⟩) hg _).setCell (p := ⟨g, 2, none⟩) hg _).setCell (p := ⟨g, 3, none⟩) hg _).setCell (p := ⟨g, 4, none⟩) hg _).setCell (p := ⟨g, 5, none⟩) hg _).setCell (p := ⟨g, 6, none⟩) hg _).setCell (p := ⟨g, 7, none⟩) hg _
theorem Own.set8 {w : World} {base c g : Nat} {A : Option Addr} {xs : List Int} (h : Own w base A c xs) (hg : g < base) (q0 q1 q2 q3 q4 q5 q6 q7 : Int) :
    Own ((((((((w.setCell ⟨g, 0, none⟩ (.int .i64 q0)).setCell ⟨g, 1, none⟩ (.int .i64 q1)).setCell ⟨g, 2, none⟩ (.int .i64 q2)).setCell ⟨g, 3, none⟩ (.int .i64 q3)).setCell ⟨g, 4, none⟩ (.int .i64 q4)).setCell ⟨g, 5, none⟩ (.int .i64 q5)).setCell ⟨g, 6, none⟩ (.int .i64 q6)).setCell ⟨g, 7, none⟩ (.int .i64 q7)) base A c xs :=
  (((((((h.setC hg 0 _).setC hg 1 _).setC hg 2 _).setC hg 3 _).setC hg 4 _).setC hg 5 _).setC hg 6 _).setC hg 7 _

set_option maxHeartbeats 4000000 in
theorem synthMake_any (a p l : List Int) (A0 : Option Addr) (c0 n : Nat) (w : World) (ha : a.length = 9) (hp : p.length = 8) (hr : Rs w w.heap.size A0 l) (hn : l.length = n) (hl : n ≤ 17592186044000) :
    Calls Try.prog 91 #[.agg (agi a), .agg (agi p), .slice A0 n c0] w (NewSP w (if goodF a p l then makeN a p l n else []) (if goodF a p l then newL p (makeN a p l n) else Z8) (errOf (goodF a p l))) := by
  have hR := results_mid3 (fn := Try.f91) (p := 6) (q := 7) (r := 8) (ty := 42) rfl
  have S0 := Sx.start w a p
  have R0 := hr.below S0.bel
  rw [z8_eq] at S0
  rw [z8_eq] at R0
  have S0 := hid S0
  have R0 := hid R0
  have HA := hid ha
  have HP := hid hp
  have HN := hid hn
  have HR := hid hr
  have KG := hid (fun (W : World) (hW : Rs W W.heap.size A0 l) => synthgood_any a p l A0 c0 n 0 W ha hp hW hn (by omega))
  clear ha hp hn hr
  obtain ⟨Y, hY⟩ : ∃ Y, Y = (if goodF a p l then makeN a p l n else []) := ⟨_, rfl⟩
  obtain ⟨Z, hZ⟩ : ∃ Z, Z = (if goodF a p l then newL p (makeN a p l n) else Z8) := ⟨_, rfl⟩
  rw [← hY, ← hZ]
  have HYY := hid hY
  have HZZ := hid hZ
  clear hY hZ
  go_enter Try.func91, Try.ntmps91
  go_wp2_with (first
    | (refine wpList_loadI rfl 23 (.tmp 3) rfl _ 23 a 9 _ rfl S0.out.A Try.underlying23 rfl size9 HA.out ?_)
    | (refine wpList_loadI rfl 42 (.tmp 4) rfl _ 42 p 8 _ rfl S0.out.P Try.underlying42 rfl size8 HP.out ?_))
  refine (KG.out _ (R0.out.more (by simp; omega))).mono ?_
  rintro e w1 ⟨rfl, hB⟩
  have S1 := hid (S0.out.below hB)
  clear hB S0 R0 KG
  by_cases hg : goodF a p l = true
  · have HG := hid hg
    rw [hg]
    have y1 := HYY.out
    have z1 := HZZ.out
    rw [if_pos hg] at y1 z1
    have HY1 := hid y1
    have HZ1 := hid z1
    clear y1 z1
    obtain ⟨ga, gz, gp, gl⟩ : okP a = true ∧ a.getD 0 0 = 4096 ∧ all16 p = true ∧ all16 l = true := by simpa [goodF] using hg
    have GA := hid ga
    have GP := hid gp
    have GL := hid gl
    clear hg ga gz gp gl
    go_wp2
    go_loopw [9, 21] (fun ov iv wr => ∃ (k : Nat) (A : Option Addr) (c : Nat) (q ys : List Int), k ≤ n ∧ iv = .int .i64 k ∧ ov = .slice A k c ∧ Hid (ys = makeN a p l k) ∧ Hid (q = newL p (makeN a p l k)) ∧ Hid (Own wr (w.heap.size + 3) A c ys) ∧ Hid (Sx w wr a q)) (fun _ iv _ => n - (intOf iv).toNat)
    case atStart => exact ⟨0, none, 0, p, [], by omega, rfl, rfl, hid rfl, hid rfl, hid Own.nil, S1⟩
    case round =>
      clear S1
      obtain ⟨k, A, c, q, ys, hk, rfl, rfl, HY, HQ, HO, HS⟩ := hrel
      have HQL := hid (show q.length = 8 by rw [HQ.out]; exact newL_len _ _ HP.out)
      by_cases hlt : k < n
      · have q16 := hid (show all16 q = true by rw [HQ.out]; exact newL_all _ _ GP.out (makeN_all _ _ _ _))
        obtain ⟨ad, rfl, hadb, c1⟩ := (HR.out.below HS.out.bel).at_ (k := k) (by rw [HN.out]; exact hlt)
        have xb := all16_at GL.out k
        have YN := hid (show ys ++ [s16 (l.getD k 0 - guessL a q)] = makeN a p l (k + 1) by rw [makeN, ← HY.out, HQ.out, HY.out])
        obtain ⟨x, hx⟩ : ∃ x, x = l.getD k 0 := ⟨_, rfl⟩
        rw [← hx] at c1 xb YN
        have gb := guess_bound GA.out q16.out
        have K1 := hid (fun W => synthguess_any a q W HA.out HQL.out GA.out q16.out)
        generalize guessL a q = g at *
        obtain ⟨x1, x2⟩ := xb
        obtain ⟨g1, g2⟩ := gb
        have hw1 : IntKind.i64.wrap (x - g) = x - g := by rw [IntKind.wrap_i64]; omega
        obtain ⟨y, hy⟩ : ∃ y, y = s16 (x - g) := ⟨_, rfl⟩
        rw [← hy] at YN
        have KS := hid (fun W => synthsat_any (x - g) W)
        rw [← hy] at KS
        have QN := hid (show pushL q y = newL p (makeN a p l (k + 1)) by rw [← YN.out, HY.out, newL_snoc, HQ.out])
        have LP := hid (pushL_len HQL.out y)
        have HX := hid hx
        have YL := hid (show ys.length = k by rw [HY.out, makeN_len])
        clear hx hy
        go_wp2_with (first
          | (refine wpList_loadI rfl 23 (.tmp 3) rfl _ 23 a 9 _ rfl HS.out.A Try.underlying23 rfl size9 HA.out ?_)
          | (refine wpList_loadI rfl 42 (.tmp 4) rfl _ 42 q 8 _ rfl HS.out.P Try.underlying42 rfl size8 HQL.out ?_))
        refine (K1.out _).mono ?_
        rintro e w2 ⟨rfl, hB⟩
        have S2 := hid (HS.out.below hB)
        have O2 := hid (HO.out.below hB)
        clear hB HS HO c1
        go_wp2_with (first
          | (go_at_call 113; refine (KS.out _).mono ?_; rintro e w' ⟨rfl, rfl⟩)
          | (refine wpList_loadI rfl 42 (.tmp 4) rfl _ 42 q 8 _ rfl S2.out.P Try.underlying42 rfl size8 HQL.out ?_))
        refine (synthpush_any q y _ HQL.out).mono ?_
        rintro e w3 ⟨rfl, hB⟩
        have S3 := hid (S2.out.below hB)
        have O3 := hid (O2.out.below hB)
        clear hB S2 O2
        go_wp2_with (first
          | (refine wpList_storeI rfl 42 (.tmp 4) (.tmp 33) rfl _ 42 q (pushL q y) 8 rfl rfl S3.out.P size8 HQL.out LP.out ?_
             obtain ⟨w4, hw4⟩ : ∃ w4, w4 = w3.setRow (w.heap.size + 1) (agi (pushL q y)) := ⟨_, rfl⟩
             rw [← hw4]
             have S4 := hid (show Sx w w4 a (pushL q y) by rw [hw4]; exact S3.out.setP _)
             have O4 := hid (show Own w4 (w.heap.size + 3) A c ys by rw [hw4]; exact O3.out.setRow (by omega) _)
             clear hw4)
          | (at_builtin; refine wpList_pushN rfl (.tmp 34) (.tmp 36) rfl (w.heap.size + 3) A c k ys rfl YL.out (O4.out.alloc _) ⟨w4.heap.size, 0, none⟩ y rfl (cell_new w4 _ _) (by omega) (Nat.le_trans S4.out.lt (by simp)) ?_; intro A2 c2 w5 hO hG hA; have O5 := hid hO; have G5 := hid hG; clear hO hG hA))
        have S5 := hid ((S4.out.alloc _).grown (O4.out.alloc _) G5.out)
        go_wp2
        go_roundw
        case rel => exact ⟨k + 1, A2, c2, _, _, by omega, by go_num, rfl, YN, QN, O5, S5⟩
        case measure => simp [intOf] <;> omega
      · obtain rfl : k = n := by omega
        obtain ⟨q0, q1, q2, q3, q4, q5, q6, q7, rfl⟩ := list8 HQL.out
        have c0 : wr.cell? ⟨w.heap.size + 1, 0, none⟩ = some (.int .i64 q0) := IB.cell HS.out.P 0 (by simp)
        have c1 : wr.cell? ⟨w.heap.size + 1, 1, none⟩ = some (.int .i64 q1) := IB.cell HS.out.P 1 (by simp)
        have c2 : wr.cell? ⟨w.heap.size + 1, 2, none⟩ = some (.int .i64 q2) := IB.cell HS.out.P 2 (by simp)
        have c3 : wr.cell? ⟨w.heap.size + 1, 3, none⟩ = some (.int .i64 q3) := IB.cell HS.out.P 3 (by simp)
        have c4 : wr.cell? ⟨w.heap.size + 1, 4, none⟩ = some (.int .i64 q4) := IB.cell HS.out.P 4 (by simp)
        have c5 : wr.cell? ⟨w.heap.size + 1, 5, none⟩ = some (.int .i64 q5) := IB.cell HS.out.P 5 (by simp)
        have c6 : wr.cell? ⟨w.heap.size + 1, 6, none⟩ = some (.int .i64 q6) := IB.cell HS.out.P 6 (by simp)
        have c7 : wr.cell? ⟨w.heap.size + 1, 7, none⟩ = some (.int .i64 q7) := IB.cell HS.out.P 7 (by simp)
        have r0 : wr.cell? ⟨w.heap.size + 1 + 1, 0, none⟩ = some (.int .i64 0) := IB.cell HS.out.R 0 (by decide)
        have r1 : wr.cell? ⟨w.heap.size + 1 + 1, 1, none⟩ = some (.int .i64 0) := IB.cell HS.out.R 1 (by decide)
        have r2 : wr.cell? ⟨w.heap.size + 1 + 1, 2, none⟩ = some (.int .i64 0) := IB.cell HS.out.R 2 (by decide)
        have r3 : wr.cell? ⟨w.heap.size + 1 + 1, 3, none⟩ = some (.int .i64 0) := IB.cell HS.out.R 3 (by decide)
        have r4 : wr.cell? ⟨w.heap.size + 1 + 1, 4, none⟩ = some (.int .i64 0) := IB.cell HS.out.R 4 (by decide)
        have r5 : wr.cell? ⟨w.heap.size + 1 + 1, 5, none⟩ = some (.int .i64 0) := IB.cell HS.out.R 5 (by decide)
        have r6 : wr.cell? ⟨w.heap.size + 1 + 1, 6, none⟩ = some (.int .i64 0) := IB.cell HS.out.R 6 (by decide)
        have r7 : wr.cell? ⟨w.heap.size + 1 + 1, 7, none⟩ = some (.int .i64 0) := IB.cell HS.out.R 7 (by decide)
        have f0 : wr.frozen? ⟨w.heap.size + 1 + 1, 0, none⟩ = false := Blk.frozen HS.out.R 0
        have f1 : wr.frozen? ⟨w.heap.size + 1 + 1, 1, none⟩ = false := Blk.frozen HS.out.R 1
        have f2 : wr.frozen? ⟨w.heap.size + 1 + 1, 2, none⟩ = false := Blk.frozen HS.out.R 2
        have f3 : wr.frozen? ⟨w.heap.size + 1 + 1, 3, none⟩ = false := Blk.frozen HS.out.R 3
        have f4 : wr.frozen? ⟨w.heap.size + 1 + 1, 4, none⟩ = false := Blk.frozen HS.out.R 4
        have f5 : wr.frozen? ⟨w.heap.size + 1 + 1, 5, none⟩ = false := Blk.frozen HS.out.R 5
        have f6 : wr.frozen? ⟨w.heap.size + 1 + 1, 6, none⟩ = false := Blk.frozen HS.out.R 6
        have f7 : wr.frozen? ⟨w.heap.size + 1 + 1, 7, none⟩ = false := Blk.frozen HS.out.R 7
        have IR := hid (Blk.drew (IB.set8 HS.out.R q0 q1 q2 q3 q4 q5 q6 q7))
        have OR := hid ((HO.out.set8 (g := w.heap.size + 2) (by omega) q0 q1 q2 q3 q4 q5 q6 q7).drew.more (base' := w.heap.size) (by omega))
        have BR := hid (below_set8 HS.out.bel (g := w.heap.size + 2) (by omega) q0 q1 q2 q3 q4 q5 q6 q7).drew
        have FY := hid (show Y = ys by rw [HY1.out, HY.out])
        have FZ := hid (show Z = [q0, q1, q2, q3, q4, q5, q6, q7] by rw [HZ1.out, HQ.out])
        have YL := hid (show ys.length = k by rw [HY.out, makeN_len])
        go_wp2
        go_region
        clear c0 c1 c2 c3 c4 c5 c6 c7 r0 r1 r2 r3 r4 r5 r6 r7 f0 f1 f2 f3 f4 f5 f6 f7
        simp only [Exit.then]
        go_wp2
        refine bodyPost_ret (v := _) (hR _ _ _ 42 [q0, q1, q2, q3, q4, q5, q6, q7] _ 8 rfl IR.out Try.underlying42 rfl size8 rfl) rfl ?_
        exact ⟨A, c, by rw [FY.out, FZ.out, YL.out, HG.out]; rfl, by rw [FY.out]; exact OR.out, BR.out⟩
  · have hb : goodF a p l = false := by simpa using hg
    rw [hb]
    have hRow := hid (S1.out.R)
    go_wp2_with (refine wpList_storeI rfl 42 (.tmp 7) (.tmp 18) rfl _ 42 Z8 Z8 8 rfl rfl S1.out.R size8 rfl rfl ?_)
    refine bodyPost_ret (v := _) (hR _ _ _ 42 Z8 _ 8 rfl (IB.setRow S1.out.R Z8) Try.underlying42 rfl size8 rfl) rfl ?_
    have y1 := HYY.out
    have z1 := HZZ.out
    rw [if_neg hg] at y1 z1
    subst y1
    subst z1
    exact ⟨none, 0, by rw [hb]; rfl, Own.nil, below_setRow S1.out.bel (by omega) _⟩
end Go.Proofs.Ytcfmipobgljbeaa

/- Blocks of numbers as the drawing regions speak of them: ranges. -/
namespace Go.Proofs.Ytcfmipobgljbeaa
set_option linter.unusedVariables false
set_option linter.unusedSimpArgs false
set_option maxRecDepth 100000
open Go.RowKit

section
variable {w w' : World} {g : Nat} {t : TypeId} {xs : List Int} {cs : Array Value}
theorem Blk.rangeAt (h : Blk w g t cs) : w.rangeAt g 0 cs.toList := fun j v hv => by
  rw [Nat.zero_add, Blk.cell h j, ← hv]
  simp
theorem IB.rangeAt (h : IB w g t xs) : w.rangeAt g 0 (ints xs) := by
  have := Blk.rangeAt h
  simpa [agi] using this
theorem Blk.there (h : Blk w g t cs) : w.there g 0 cs.size := fun j hj => by
  rw [Nat.zero_add]
  refine ⟨?_, Blk.frozen h j⟩
  rw [Blk.cell h j]
  simp [hj]
end
theorem rangeAt_alloc_drew {w : World} {b : Nat} {cs : List Value} (h : w.rangeAt b 0 cs) (o : Obj) : (w.alloc o).drew.rangeAt b 0 cs := (World.rangeAt_drew _ _ _ _).2 (World.rangeAt_alloc h o)
theorem rangeAt_far {w : World} {b : Nat} {cs : List Value} (h : w.rangeAt b 0 cs) {p : Addr} (hp : b ≠ p.block) (v : Value) : (w.setCell p v).rangeAt b 0 cs := fun j u hu => by
  rw [World.cell?_setCell_far _ _ _ _ (fun e => hp e.symm)]
  exact h j u hu
theorem rangeAt_far8 {w : World} {b g : Nat} {cs : List Value} (h : w.rangeAt b 0 cs) (hp : b ≠ g) (v0 v1 v2 v3 v4 v5 v6 v7 : Value) : World.rangeAt ((((((((w.setCell ⟨g, 0, none⟩ v0).setCell ⟨g, 1, none⟩ v1).setCell ⟨g, 2, none⟩ v2).setCell ⟨g, 3, none⟩ v3).setCell ⟨g, 4, none⟩ v4).setCell ⟨g, 5, none⟩ v5).setCell ⟨g, 6, none⟩ v6).setCell ⟨g, 7, none⟩ v7) b 0 cs :=
  rangeAt_far (rangeAt_far (rangeAt_far (rangeAt_far (rangeAt_far (rangeAt_far (rangeAt_far (rangeAt_far h hp v0) hp v1) hp v2) hp v3) hp v4) hp v5) hp v6) hp v7
theorem Blk.far8 {w : World} {k g : Nat} {t : TypeId} {cs : Array Value} (h : Blk w k t cs) (hp : k ≠ g) (v0 v1 v2 v3 v4 v5 v6 v7 : Value) : Blk ((((((((w.setCell ⟨g, 0, none⟩ v0).setCell ⟨g, 1, none⟩ v1).setCell ⟨g, 2, none⟩ v2).setCell ⟨g, 3, none⟩ v3).setCell ⟨g, 4, none⟩ v4).setCell ⟨g, 5, none⟩ v5).setCell ⟨g, 6, none⟩ v6).setCell ⟨g, 7, none⟩ v7) k t cs :=
  (((((((h.far (p := ⟨g, 0, none⟩) hp v0).far (p := ⟨g, 1, none⟩) hp v1).far (p := ⟨g, 2, none⟩) hp v2).far (p := ⟨g, 3, none⟩) hp v3).far (p := ⟨g, 4, none⟩) hp v4).far (p := ⟨g, 5, none⟩) hp v5).far (p := ⟨g, 6, none⟩) hp v6).far (p := ⟨g, 7, none⟩) hp v7
end Go.Proofs.Ytcfmipobgljbeaa

/- The walk of the law PulsesScores. -/
namespace Go.Proofs.Ytcfmipobgljbeaa
set_option linter.unusedVariables false
set_option linter.unusedSimpArgs false
set_option maxRecDepth 100000
open Go.RowKit

def flatL (n : Int) : List Int := List.replicate 40 n
theorem flatL_len (n : Int) : (flatL n).length = 40 := by simp [flatL]
theorem flatL_64 {n : Int} (h1 : -9223372036854775808 ≤ n) (h2 : n ≤ 9223372036854775807) : W64 (flatL n) := fun x hx => by
  have := (List.mem_replicate.1 hx).2
  omega
def flatN (n : Int) (k : Nat) : List Int := (List.range 40).map (fun j => if j < k then n else 0)
theorem flatN_len (n : Int) (k : Nat) : (flatN n k).length = 40 := by simp [flatN]
theorem flatN_zero (n : Int) : flatN n 0 = List.replicate 40 0 := by
  refine list_ext (by rw [flatN_len]; simp) fun j hj => ?_
  rw [flatN_len] at hj
  unfold flatN
  rw [range_get _ hj, if_neg (by omega), repl_get]
theorem flatN_end (n : Int) : flatN n 40 = flatL n := by
  refine list_ext (by rw [flatN_len, flatL_len]) fun j hj => ?_
  rw [flatN_len] at hj
  unfold flatN flatL
  rw [range_get _ hj, if_pos hj, List.getD_eq_getElem?_getD, List.getElem?_replicate, if_pos hj]
  rfl
theorem flatN_set (n : Int) {k : Nat} (hk : k < 40) : (flatN n k).set k n = flatN n (k + 1) := by
  refine list_ext (by rw [List.length_set, flatN_len, flatN_len]) fun j hj => ?_
  rw [List.length_set, flatN_len] at hj
  by_cases e : k = j
  · subst e
    rw [get_set_same _ _ _ (by rw [flatN_len]; exact hk)]
    unfold flatN
    rw [range_get _ hj, if_pos (by omega)]
  · rw [get_set_other _ _ e]
    unfold flatN
    rw [range_get _ hj, range_get _ hj]
    by_cases h2 : j < k
    · rw [if_pos h2, if_pos (by omega)]
    · rw [if_neg h2, if_neg (by omega)]

set_option maxHeartbeats 1000000 in
theorem flat_any (n : Int) (w : World) : Calls Try.prog 14 #[.int .i64 n] w (fun e w' => ∃ A c, e = .returned (.slice A 40 c) ∧ Own w' w.heap.size A c (flatL n) ∧ Below w.heap.size w w') := by
  go_enter Try.func14, Try.ntmps14
  go_wp2_with (at_make; refine wpList_makeI rfl _ _ rfl .i64 .i64 40 rfl rfl w.heap.size (by omega) (Nat.le_refl _) ?_; intro w1 hO hG; have O1 := hid (show Own w1 w.heap.size (some ⟨w.heap.size, 0, none⟩) 40 (flatN n 0) by rw [flatN_zero]; exact hO); have B1 := hid ((Below.refl w.heap.size w).grown hG (Nat.le_refl _) (by simp)); clear hO hG)
  go_loopw [4] (fun iv wr => ∃ k : Nat, k ≤ 40 ∧ iv = .int .i64 k ∧ Hid (Own wr w.heap.size (some ⟨w.heap.size, 0, none⟩) 40 (flatN n k)) ∧ Hid (Below w.heap.size w wr)) (fun iv _ => 40 - (intOf iv).toNat)
  case atStart => exact ⟨0, by omega, rfl, O1, B1⟩
  case round =>
    clear O1 B1
    obtain ⟨k, hk, rfl, HO, HB⟩ := hrel
    by_cases hlt : k < 40
    · have co := HO.out.cell k (by rw [flatN_len]; exact hlt)
      have fo := HO.out.frozen k
      have NO := hid (show Own (wr.setCell ⟨w.heap.size, k, none⟩ (.int .i64 n)) w.heap.size (some ⟨w.heap.size, 0, none⟩) 40 (flatN n (k + 1)) from by rw [← flatN_set n hlt]; exact HO.out.set_ k (by rw [flatN_len]; exact hlt) n)
      have NB := hid (HB.out.setCell (p := ⟨w.heap.size, k, none⟩) (Nat.le_refl _) (.int .i64 n))
      go_wp2
      go_roundw
      case rel => exact ⟨k + 1, by omega, by go_num, NO, NB⟩
      case measure => simp [intOf] <;> omega
    · obtain rfl : k = 40 := by omega
      have NO := hid (show Own wr w.heap.size (some ⟨w.heap.size, 0, none⟩) 40 (flatL n) by rw [← flatN_end]; exact HO.out)
      go_wp2
      go_ret
      exact ⟨_, _, rfl, NO.out, HB.out⟩

theorem sc_flat : scCv (flatL (-1)) (flatL 0) [0, 0, 0, 0] = 4 := by decide +kernel

/-- Behind a call: the box, the lists. -/
structure SL (w V : World) (ix r t : List Int) (A A' : Option Addr) : Prop where
  J : IB V w.heap.size 29 ix
  R : Rs V V.heap.size A r
  T : Rs V V.heap.size A' t
  B : Below w.heap.size w V
theorem SL.below {w V V' : World} {ix r t : List Int} {A A' : Option Addr} (s : SL w V ix r t A A') (hb : Below V.heap.size V V') : SL w V' ix r t A A' :=
  ⟨Blk.below' s.J hb, (s.R.below hb).more hb.size, (s.T.below hb).more hb.size, s.B.trans (hb.mono s.B.size)⟩
theorem SL.drew {w V : World} {ix r t : List Int} {A A' : Option Addr} (s : SL w V ix r t A A') : SL w V.drew ix r t A A' := s.below ((Below.refl _ _).drew)

set_option maxHeartbeats 4000000 in
theorem walkPulsesScores (w : World) (A : Option Addr) (c : Nat) (xs : List Int) (hr : Rs w w.heap.size A xs) (hw : W64 xs) (hl : xs.length ≤ c) (hc : c * 8 ≤ 140737488351232) (A' : Option Addr) (c' : Nat) (ys : List Int) (hr' : Rs w w.heap.size A' ys) (hw' : W64 ys) (hl' : ys.length ≤ c') (hc' : c' * 8 ≤ 140737488351232) (ix : List Int) (hx : ix.length = 4) (_ : W64 ix) :
    Calls Try.prog 4 #[.slice A xs.length c, .slice A' ys.length c', .agg (agi ix)] w fun e w' => e = .returned (.bool true) ∧ Below w.heap.size w w' := by
  obtain ⟨x0, x1, x2, x3, rfl⟩ := list4 hx
  obtain ⟨n, hn⟩ : ∃ n, n = xs.length := ⟨_, rfl⟩
  obtain ⟨m, hm⟩ : ∃ m, m = ys.length := ⟨_, rfl⟩
  have hB0 := (Below.refl w.heap.size w).alloc (Nat.le_refl _) (.cells (agi [x0, x1, x2, x3]) 29)
  have S0 := hid (show SL w (w.alloc (.cells (agi [x0, x1, x2, x3]) 29)) [x0, x1, x2, x3] xs ys A A' from ⟨IB.new w _ _, (hr.below hB0).more hB0.size, (hr'.below hB0).more hB0.size, hB0⟩)
  have KI := hid (fun W (h : Rs W W.heap.size A xs) => show Calls Try.prog 10 #[.slice A n c] W (fun e w' => ∃ A1 c1, e = .returned (.slice A1 n c1) ∧ Own w' W.heap.size A1 c1 xs ∧ Below W.heap.size W w') from by
    have := ints_any A c xs W h (by omega)
    rw [hn]
    exact this)
  have KJ := hid (fun W (h : Rs W W.heap.size A' ys) => show Calls Try.prog 10 #[.slice A' m c'] W (fun e w' => ∃ A1 c1, e = .returned (.slice A1 m c1) ∧ Own w' W.heap.size A1 c1 ys ∧ Below W.heap.size W w') from by
    have := ints_any A' c' ys W h (by omega)
    rw [hm]
    exact this)
  have K1 := fun W A1 c1 A2 c2 (h1 : Rs W W.heap.size A1 xs) (h2 : Rs W W.heap.size A2 ys) => show Calls Try.prog 12 #[.slice A1 n c1, .slice A2 m c2, .agg #[.int .i64 x0, .int .i64 x1, .int .i64 x2, .int .i64 x3]] W (ScAns xs ys [x0, x1, x2, x3] W) from pulsesScore_any A1 A2 c1 c2 n m xs ys [x0, x1, x2, x3] W h1 h2 hn.symm hm.symm hw hw' rfl
  have K2 := fun W (h1 : Rs W W.heap.size A xs) (h2 : Rs W W.heap.size A' ys) => show Calls Try.prog 13 #[.slice A n c, .slice A' m c', .agg (agi [x0, x1, x2, x3])] W (ScAns xs ys [x0, x1, x2, x3] W) from refScore_any A A' c c' n m xs ys [x0, x1, x2, x3] W h1 h2 hn.symm hm.symm hw hw' rfl
  have K3 := fun W A1 c1 A2 c2 (h1 : Rs W W.heap.size A1 (flatL (-1))) (h2 : Rs W W.heap.size A2 (flatL 0)) => show Calls Try.prog 12 #[.slice A1 40 c1, .slice A2 40 c2, .agg #[.int .i64 0, .int .i64 0, .int .i64 0, .int .i64 0]] W (ScAns (flatL (-1)) (flatL 0) [0, 0, 0, 0] W) from pulsesScore_any A1 A2 c1 c2 40 40 (flatL (-1)) (flatL 0) [0, 0, 0, 0] W h1 h2 (flatL_len _) (flatL_len _) (flatL_64 (by omega) (by omega)) (flatL_64 (by omega) (by omega)) rfl
  unfold ScAns at K1 K2 K3
  rw [sc_flat] at K3
  rw [← hn, ← hm]
  generalize scCv xs ys [x0, x1, x2, x3] = a at *
  generalize scEv xs ys [x0, x1, x2, x3] = b at *
  generalize scErr xs ys [x0, x1, x2, x3] = er at *
  generalize scEv (flatL (-1)) (flatL 0) [0, 0, 0, 0] = b3 at *
  generalize scErr (flatL (-1)) (flatL 0) [0, 0, 0, 0] = er3 at *
  have K1 := hid K1
  have K2 := hid K2
  have K3 := hid K3
  have KL := hid (fun n W => flat_any n W)
  rename_i K1r K2r K3r
  clear K1r K2r K3r hB0 hr hr' hw hw' hl hl' hc hc' hn hm hx
  obtain ⟨W, hW⟩ : ∃ W, W = w.alloc (.cells (agi [x0, x1, x2, x3]) 29) := ⟨_, rfl⟩
  rw [← hW] at S0
  have HW := hid hW
  clear hW
  have J0 := S0.out.J
  have k0 : World.cell? W ⟨w.heap.size, 0, none⟩ = some (.int .i64 x0) := IB.cell J0 0 (by first | decide | simp); have k1 : World.cell? W ⟨w.heap.size, 1, none⟩ = some (.int .i64 x1) := IB.cell J0 1 (by first | decide | simp); have k2 : World.cell? W ⟨w.heap.size, 2, none⟩ = some (.int .i64 x2) := IB.cell J0 2 (by first | decide | simp); have k3 : World.cell? W ⟨w.heap.size, 3, none⟩ = some (.int .i64 x3) := IB.cell J0 3 (by first | decide | simp)
  clear J0
  have R0 := hid S0.out.drew.R
  go_enter Try.func4, Try.ntmps4
  go_wp2_with fail
  first | rw [← HW.out] | (rw [show agi [x0, x1, x2, x3] = #[.int .i64 x0, .int .i64 x1, .int .i64 x2, .int .i64 x3] from rfl] at HW; rw [← HW.out])
  go_region_held3 (fun w' => w'.cell? ⟨w.heap.size, 0, none⟩ = some (.int .i64 x0) ∧ w'.cell? ⟨w.heap.size, 1, none⟩ = some (.int .i64 x1) ∧ w'.cell? ⟨w.heap.size, 2, none⟩ = some (.int .i64 x2) ∧ w'.cell? ⟨w.heap.size, 3, none⟩ = some (.int .i64 x3)) (go_keep) (first
    | (go_at_call 10; (with_reducible refine (KI.out W.drew R0.out).mono ?_); rintro e w2 ⟨A2, c2, rfl, hO, hBx⟩; have S2 := hid (S0.out.drew.below hBx); have O2 := hid hO; have J2 := S2.out.J; have l0 : World.cell? w2 ⟨w.heap.size, 0, none⟩ = some (.int .i64 x0) := IB.cell J2 0 (by first | decide | simp); have l1 : World.cell? w2 ⟨w.heap.size, 1, none⟩ = some (.int .i64 x1) := IB.cell J2 1 (by first | decide | simp); have l2 : World.cell? w2 ⟨w.heap.size, 2, none⟩ = some (.int .i64 x2) := IB.cell J2 2 (by first | decide | simp); have l3 : World.cell? w2 ⟨w.heap.size, 3, none⟩ = some (.int .i64 x3) := IB.cell J2 3 (by first | decide | simp); clear J2 hO hBx)
    | (go_at_call 10; (with_reducible refine (KJ.out w2 S2.out.T).mono ?_); rintro e w3 ⟨A3, c3, rfl, hO, hBx⟩; have S3 := hid (S2.out.below hBx); have O3 := hid hO.reads; have P3 := hid (O2.out.below hBx).reads; have J3 := S3.out.J; have m0 : World.cell? w3 ⟨w.heap.size, 0, none⟩ = some (.int .i64 x0) := IB.cell J3 0 (by first | decide | simp); have m1 : World.cell? w3 ⟨w.heap.size, 1, none⟩ = some (.int .i64 x1) := IB.cell J3 1 (by first | decide | simp); have m2 : World.cell? w3 ⟨w.heap.size, 2, none⟩ = some (.int .i64 x2) := IB.cell J3 2 (by first | decide | simp); have m3 : World.cell? w3 ⟨w.heap.size, 3, none⟩ = some (.int .i64 x3) := IB.cell J3 3 (by first | decide | simp); clear J3 hO hBx)
    | (go_at_call 12; (with_reducible refine (K1.out w3 A2 c2 A3 c3 P3.out O3.out).mono ?_); rintro e w4 ⟨rfl, hBx⟩; have S4 := hid (S3.out.below hBx); have J4 := S4.out.J; have q0 : World.cell? w4 ⟨w.heap.size, 0, none⟩ = some (.int .i64 x0) := IB.cell J4 0 (by first | decide | simp); have q1 : World.cell? w4 ⟨w.heap.size, 1, none⟩ = some (.int .i64 x1) := IB.cell J4 1 (by first | decide | simp); have q2 : World.cell? w4 ⟨w.heap.size, 2, none⟩ = some (.int .i64 x2) := IB.cell J4 2 (by first | decide | simp); have q3 : World.cell? w4 ⟨w.heap.size, 3, none⟩ = some (.int .i64 x3) := IB.cell J4 3 (by first | decide | simp); clear J4 hBx))
  rename_i hHeldZ
  clear hHeldZ S0 S2 S3 O2 O3 P3 R0
  clear k0 k1 k2 k3 l0 l1 l2 l3 m0 m1 m2 m3 q0 q1 q2 q3
  simp only [Exit.then]
  have size4 : (Try.prog.info? 29).map (·.size) = some 4 := by kernel_rfl
  have SZ4 := hid size4
  clear size4
  go_wp2_with (refine wpList_loadI rfl 29 (.tmp 5) rfl _ 29 [x0, x1, x2, x3] 4 _ rfl S4.out.J Try.underlying29 rfl SZ4.out rfl ?_)
  refine (K2.out w4 S4.out.R S4.out.T).mono ?_
  rintro e w5 ⟨rfl, hB⟩
  have B5 := hid (S4.out.below hB).B
  clear hB S4
  go_wp2_with fail
  refine (KL.out _ w5).mono ?_
  rintro e w6 ⟨A6, c6, rfl, hO, hB⟩
  have O6 := hid hO
  have B6 := hid (B5.out.trans (hB.mono B5.out.size))
  clear hO hB
  go_wp2_with fail
  refine (KL.out _ w6).mono ?_
  rintro e w7 ⟨A7, c7, rfl, hO, hB⟩
  have O7 := hid hO.reads
  have P7 := hid (O6.out.below hB).reads
  have B7 := hid (B6.out.trans (hB.mono B6.out.size))
  clear hO hB O6
  go_wp2_with fail
  refine (K3.out w7 A6 c6 A7 c7 P7.out O7.out).mono ?_
  rintro e w8 ⟨rfl, hB⟩
  have B8 := hid (B7.out.trans (hB.mono B7.out.size))
  clear hB
  go_wp2
  go_ret
  exact ⟨by simp, B8.out⟩
end Go.Proofs.Ytcfmipobgljbeaa

/- The walks of the laws PulsesAlls and PulsesFews. -/
namespace Go.Proofs.Ytcfmipobgljbeaa
set_option linter.unusedVariables false
set_option linter.unusedSimpArgs false
set_option maxRecDepth 100000
open Go.RowKit

theorem flat_nn (i : Nat) : 0 ≤ (flatL 1).getD i 0 := by
  unfold flatL
  rw [List.getD_eq_getElem?_getD, List.getElem?_replicate]
  split <;> simp
theorem flat_sg (x : List Int) : sgnB (flatL 1) x 4 = 15 := by
  unfold sgnB
  simp only [sgnN, if_pos (flat_nn _)]
  rfl
theorem flat_err : seErr (flatL 1) (flatL 0) = 0 := by decide +kernel
theorem flat_seS (x : List Int) : seS (flatL 1) (flatL 0) x = 15 := by unfold seS; rw [flat_err, if_pos rfl]; exact flat_sg x
/-- Behind a call: two answers' boxes. -/
structure AL (w V : World) (X : List Int) (g h : Nat) : Prop where
  G : IB V g 29 X
  H : IB V h 29 X
  B : Below w.heap.size w V
theorem AL.below {w V V' : World} {X : List Int} {g h : Nat} (s : AL w V X g h) (hb : Below V.heap.size V V') : AL w V' X g h := ⟨Blk.below' s.G hb, Blk.below' s.H hb, s.B.trans (hb.mono s.B.size)⟩
theorem below_box (w : World) (X : List Int) : Below w.heap.size w ((w.alloc (.cells (agi Z4) 29)).setRow w.heap.size (agi X)) := below_setRow ((Below.refl _ _).alloc (Nat.le_refl _) _) (Nat.le_refl _) _

set_option maxHeartbeats 4000000 in
theorem walkPulsesAlls (w : World) (A : Option Addr) (c : Nat) (xs : List Int) (hr : Rs w w.heap.size A xs) (hw : W64 xs) (hl : xs.length ≤ c) (hc : c * 8 ≤ 140737488351232) (A' : Option Addr) (c' : Nat) (ys : List Int) (hr' : Rs w w.heap.size A' ys) (hw' : W64 ys) (hl' : ys.length ≤ c') (hc' : c' * 8 ≤ 140737488351232) :
    Calls Try.prog 7 #[.slice A xs.length c, .slice A' ys.length c'] w fun e w' => e = .returned (.bool true) ∧ Below w.heap.size w w' := by
  obtain ⟨n, hn⟩ : ∃ n, n = xs.length := ⟨_, rfl⟩
  obtain ⟨m, hm⟩ : ∃ m, m = ys.length := ⟨_, rfl⟩
  have KI := hid (fun W (h : Rs W W.heap.size A xs) => show Calls Try.prog 10 #[.slice A n c] W (fun e w' => ∃ A1 c1, e = .returned (.slice A1 n c1) ∧ Own w' W.heap.size A1 c1 xs ∧ Below W.heap.size W w') from by
    have := ints_any A c xs W h (by omega)
    rw [hn]
    exact this)
  have KJ := hid (fun W (h : Rs W W.heap.size A' ys) => show Calls Try.prog 10 #[.slice A' m c'] W (fun e w' => ∃ A1 c1, e = .returned (.slice A1 m c1) ∧ Own w' W.heap.size A1 c1 ys ∧ Below W.heap.size W w') from by
    have := ints_any A' c' ys W h (by omega)
    rw [hm]
    exact this)
  have K1 := fun W A1 c1 A2 c2 (h1 : Rs W W.heap.size A1 xs) (h2 : Rs W W.heap.size A2 ys) => pulsesAll_any A1 A2 c1 c2 n m xs ys W h1 h2 hn.symm hm.symm hw hw'
  have K2 := fun W (h1 : Rs W W.heap.size A xs) (h2 : Rs W W.heap.size A' ys) => refAll_any A A' c c' n m xs ys W h1 h2 hn.symm hm.symm hw hw'
  have K3 := fun W A1 c1 A2 c2 (h1 : Rs W W.heap.size A1 (flatL 1)) (h2 : Rs W W.heap.size A2 (flatL 0)) => pulsesAll_any A1 A2 c1 c2 40 40 (flatL 1) (flatL 0) W h1 h2 (flatL_len _) (flatL_len _) (flatL_64 (by omega) (by omega)) (flatL_64 (by omega) (by omega))
  unfold SeAns at K1 K2 K3
  have LX := hid (show (seX xs ys (bestL xs ys (allL 10000)).at_).length = 4 from seX_len (bestL_len (allL_ix (n := 10000) (Nat.le_refl _))))
  have LF := hid (show (seX (flatL 1) (flatL 0) (bestL (flatL 1) (flatL 0) (allL 10000)).at_).length = 4 from seX_len (bestL_len (allL_ix (n := 10000) (Nat.le_refl _))))
  rw [flat_seS] at K3
  rw [← hn, ← hm]
  generalize seX xs ys (bestL xs ys (allL 10000)).at_ = X at *
  generalize seX (flatL 1) (flatL 0) (bestL (flatL 1) (flatL 0) (allL 10000)).at_ = XX at *
  generalize seS xs ys (bestL xs ys (allL 10000)).at_ = sv at *
  generalize seErr xs ys = er at *
  generalize seErr (flatL 1) (flatL 0) = er3 at *
  have heq := fun w => run_eql_agi Try.underlying29 X LX.out w
  have K1 := hid K1
  have K2 := hid K2
  have K3 := hid K3
  have KL := hid (fun n W => flat_any n W)
  have HR := hid hr
  have HR' := hid hr'
  rename_i K1r K2r K3r
  clear K1r K2r K3r hr hr' hw hw' hl hl' hc hc' hn hm
  go_enter Try.func7, Try.ntmps7
  go_wp2_with fail
  refine (KI.out w HR.out).mono ?_
  rintro e w1 ⟨A1, c1, rfl, hO, hB⟩
  have O1 := hid hO
  have B1 := hid hB
  clear hO hB
  go_wp2_with fail
  refine (KJ.out w1 ((HR'.out.below B1.out).more B1.out.size)).mono ?_
  rintro e w2 ⟨A2, c2, rfl, hO, hB⟩
  have O2 := hid hO.reads
  have P2 := hid (O1.out.below hB).reads
  have B2 := hid (B1.out.trans (hB.mono B1.out.size))
  clear hO hB O1
  go_wp2_with fail
  refine (K1.out w2 A1 c1 A2 c2 P2.out O2.out).mono ?_
  rintro e w3 ⟨rfl, hB⟩
  have B3 := hid (B2.out.trans (hB.mono B2.out.size))
  have G4 := hid (IB.setRow (IB.new w3 29 Z4) X)
  have B4 := hid (B3.out.trans ((below_box w3 X).mono B3.out.size))
  obtain ⟨w4, hw4⟩ : ∃ w4, w4 = (w3.alloc (.cells (agi Z4) 29)).setRow w3.heap.size (agi X) := ⟨_, rfl⟩
  rw [← hw4] at G4 B4
  rw [show agi Z4 = #[.int .i64 0, .int .i64 0, .int .i64 0, .int .i64 0] from rfl] at hw4
  have HW4 := hid hw4
  clear hB O2 P2 hw4
  go_wp2_with (refine wpList_storeI rfl 29 (.tmp 5) (.tmp 20) rfl _ 29 Z4 X 4 rfl rfl (IB.new w3 _ Z4) size4i rfl LX.out ?_; rw [← HW4.out])
  refine (K2.out w4 ((HR.out.below B4.out).more B4.out.size) ((HR'.out.below B4.out).more B4.out.size)).mono ?_
  rintro e w5 ⟨rfl, hB⟩
  have G5 := hid (Blk.below' G4.out hB)
  have B5 := hid (B4.out.trans (hB.mono B4.out.size))
  clear hB G4 B4 HW4
  have S6 := hid (show AL w ((w5.alloc (.cells (agi Z4) 29)).setRow w5.heap.size (agi X)) X w3.heap.size w5.heap.size from ⟨Blk.below' G5.out (below_box w5 X), IB.setRow (IB.new w5 29 Z4) X, B5.out.trans ((below_box w5 X).mono B5.out.size)⟩)
  obtain ⟨w6, hw6⟩ : ∃ w6, w6 = (w5.alloc (.cells (agi Z4) 29)).setRow w5.heap.size (agi X) := ⟨_, rfl⟩
  rw [← hw6] at S6
  rw [show agi Z4 = #[.int .i64 0, .int .i64 0, .int .i64 0, .int .i64 0] from rfl] at hw6
  have HW6 := hid hw6
  clear hw6
  go_wp2_with (refine wpList_storeI rfl 29 (.tmp 8) (.tmp 27) rfl _ 29 Z4 X 4 rfl rfl (IB.new w5 _ Z4) size4i rfl LX.out ?_; rw [← HW6.out])
  refine (KL.out _ w6).mono ?_
  rintro e w7 ⟨A7, c7, rfl, hO, hB⟩
  have O7 := hid hO
  have S7 := hid (S6.out.below hB)
  clear hO hB S6 HW6
  go_wp2_with fail
  refine (KL.out _ w7).mono ?_
  rintro e w8 ⟨A8, c8, rfl, hO, hB⟩
  have O8 := hid hO.reads
  have P8 := hid (O7.out.below hB).reads
  have S8 := hid (S7.out.below hB)
  clear hO hB S7 O7
  go_wp2_with fail
  refine (K3.out w8 A7 c7 A8 c8 P8.out O8.out).mono ?_
  rintro e w9 ⟨rfl, hB⟩
  have S9 := hid (S8.out.below hB)
  clear hB S8 O8 P8
  have SA := hid (S9.out.below (below_box w9 XX))
  obtain ⟨w10, hw10⟩ : ∃ w10, w10 = (w9.alloc (.cells (agi Z4) 29)).setRow w9.heap.size (agi XX) := ⟨_, rfl⟩
  rw [← hw10] at SA
  rw [show agi Z4 = #[.int .i64 0, .int .i64 0, .int .i64 0, .int .i64 0] from rfl] at hw10
  have HWA := hid hw10
  clear hw10 S9
  go_wp2_with (first
    | (refine wpList_storeI rfl 29 (.tmp 11) (.tmp 34) rfl _ 29 Z4 XX 4 rfl rfl (IB.new w9 _ Z4) size4i rfl LF.out ?_; rw [← HWA.out])
    | (refine wpList_loadI rfl 29 (.tmp 5) rfl _ 29 X 4 _ rfl SA.out.G Try.underlying29 rfl size4i LX.out ?_)
    | (refine wpList_loadI rfl 29 (.tmp 8) rfl _ 29 X 4 _ rfl SA.out.H Try.underlying29 rfl size4i LX.out ?_))
  go_ret
  exact ⟨by simp, SA.out.B⟩
set_option maxHeartbeats 4000000 in
theorem walkPulsesFews (w : World) (A : Option Addr) (c : Nat) (xs : List Int) (hr : Rs w w.heap.size A xs) (hw : W64 xs) (hl : xs.length ≤ c) (hc : c * 8 ≤ 140737488351232) (A' : Option Addr) (c' : Nat) (ys : List Int) (hr' : Rs w w.heap.size A' ys) (hw' : W64 ys) (hl' : ys.length ≤ c') (hc' : c' * 8 ≤ 140737488351232) :
    Calls Try.prog 6 #[.slice A xs.length c, .slice A' ys.length c'] w fun e w' => e = .returned (.bool true) ∧ Below w.heap.size w w' := by
  obtain ⟨n, hn⟩ : ∃ n, n = xs.length := ⟨_, rfl⟩
  obtain ⟨m, hm⟩ : ∃ m, m = ys.length := ⟨_, rfl⟩
  have KI := hid (fun W (h : Rs W W.heap.size A xs) => show Calls Try.prog 10 #[.slice A n c] W (fun e w' => ∃ A1 c1, e = .returned (.slice A1 n c1) ∧ Own w' W.heap.size A1 c1 xs ∧ Below W.heap.size W w') from by
    have := ints_any A c xs W h (by omega)
    rw [hn]
    exact this)
  have KJ := hid (fun W (h : Rs W W.heap.size A' ys) => show Calls Try.prog 10 #[.slice A' m c'] W (fun e w' => ∃ A1 c1, e = .returned (.slice A1 m c1) ∧ Own w' W.heap.size A1 c1 ys ∧ Below W.heap.size W w') from by
    have := ints_any A' c' ys W h (by omega)
    rw [hm]
    exact this)
  have K1 := fun W A1 c1 A2 c2 (h1 : Rs W W.heap.size A1 xs) (h2 : Rs W W.heap.size A2 ys) => pulsesFew_any A1 A2 c1 c2 n m xs ys W h1 h2 hn.symm hm.symm hw hw'
  have K2 := fun W (h1 : Rs W W.heap.size A xs) (h2 : Rs W W.heap.size A' ys) => refFew_any A A' c c' n m xs ys W h1 h2 hn.symm hm.symm hw hw'
  have K3 := fun W A1 c1 A2 c2 (h1 : Rs W W.heap.size A1 (flatL 1)) (h2 : Rs W W.heap.size A2 (flatL 0)) => pulsesFew_any A1 A2 c1 c2 40 40 (flatL 1) (flatL 0) W h1 h2 (flatL_len _) (flatL_len _) (flatL_64 (by omega) (by omega)) (flatL_64 (by omega) (by omega))
  unfold SeAns at K1 K2 K3
  have LX := hid (show (seX xs ys (fewN xs ys 8)).length = 4 from seX_len (fewN_ix xs ys 8).1)
  have LF := hid (show (seX (flatL 1) (flatL 0) (fewN (flatL 1) (flatL 0) 8)).length = 4 from seX_len (fewN_ix (flatL 1) (flatL 0) 8).1)
  rw [flat_seS] at K3
  rw [← hn, ← hm]
  generalize seX xs ys (fewN xs ys 8) = X at *
  generalize seX (flatL 1) (flatL 0) (fewN (flatL 1) (flatL 0) 8) = XX at *
  generalize seS xs ys (fewN xs ys 8) = sv at *
  generalize seErr xs ys = er at *
  generalize seErr (flatL 1) (flatL 0) = er3 at *
  have heq := fun w => run_eql_agi Try.underlying29 X LX.out w
  have K1 := hid K1
  have K2 := hid K2
  have K3 := hid K3
  have KL := hid (fun n W => flat_any n W)
  have HR := hid hr
  have HR' := hid hr'
  rename_i K1r K2r K3r
  clear K1r K2r K3r hr hr' hw hw' hl hl' hc hc' hn hm
  go_enter Try.func6, Try.ntmps6
  go_wp2_with fail
  refine (KI.out w HR.out).mono ?_
  rintro e w1 ⟨A1, c1, rfl, hO, hB⟩
  have O1 := hid hO
  have B1 := hid hB
  clear hO hB
  go_wp2_with fail
  refine (KJ.out w1 ((HR'.out.below B1.out).more B1.out.size)).mono ?_
  rintro e w2 ⟨A2, c2, rfl, hO, hB⟩
  have O2 := hid hO.reads
  have P2 := hid (O1.out.below hB).reads
  have B2 := hid (B1.out.trans (hB.mono B1.out.size))
  clear hO hB O1
  go_wp2_with fail
  refine (K1.out w2 A1 c1 A2 c2 P2.out O2.out).mono ?_
  rintro e w3 ⟨rfl, hB⟩
  have B3 := hid (B2.out.trans (hB.mono B2.out.size))
  have G4 := hid (IB.setRow (IB.new w3 29 Z4) X)
  have B4 := hid (B3.out.trans ((below_box w3 X).mono B3.out.size))
  obtain ⟨w4, hw4⟩ : ∃ w4, w4 = (w3.alloc (.cells (agi Z4) 29)).setRow w3.heap.size (agi X) := ⟨_, rfl⟩
  rw [← hw4] at G4 B4
  rw [show agi Z4 = #[.int .i64 0, .int .i64 0, .int .i64 0, .int .i64 0] from rfl] at hw4
  have HW4 := hid hw4
  clear hB O2 P2 hw4
  go_wp2_with (refine wpList_storeI rfl 29 (.tmp 5) (.tmp 20) rfl _ 29 Z4 X 4 rfl rfl (IB.new w3 _ Z4) size4i rfl LX.out ?_; rw [← HW4.out])
  refine (K2.out w4 ((HR.out.below B4.out).more B4.out.size) ((HR'.out.below B4.out).more B4.out.size)).mono ?_
  rintro e w5 ⟨rfl, hB⟩
  have G5 := hid (Blk.below' G4.out hB)
  have B5 := hid (B4.out.trans (hB.mono B4.out.size))
  clear hB G4 B4 HW4
  have S6 := hid (show AL w ((w5.alloc (.cells (agi Z4) 29)).setRow w5.heap.size (agi X)) X w3.heap.size w5.heap.size from ⟨Blk.below' G5.out (below_box w5 X), IB.setRow (IB.new w5 29 Z4) X, B5.out.trans ((below_box w5 X).mono B5.out.size)⟩)
  obtain ⟨w6, hw6⟩ : ∃ w6, w6 = (w5.alloc (.cells (agi Z4) 29)).setRow w5.heap.size (agi X) := ⟨_, rfl⟩
  rw [← hw6] at S6
  rw [show agi Z4 = #[.int .i64 0, .int .i64 0, .int .i64 0, .int .i64 0] from rfl] at hw6
  have HW6 := hid hw6
  clear hw6
  go_wp2_with (refine wpList_storeI rfl 29 (.tmp 8) (.tmp 27) rfl _ 29 Z4 X 4 rfl rfl (IB.new w5 _ Z4) size4i rfl LX.out ?_; rw [← HW6.out])
  refine (KL.out _ w6).mono ?_
  rintro e w7 ⟨A7, c7, rfl, hO, hB⟩
  have O7 := hid hO
  have S7 := hid (S6.out.below hB)
  clear hO hB S6 HW6
  go_wp2_with fail
  refine (KL.out _ w7).mono ?_
  rintro e w8 ⟨A8, c8, rfl, hO, hB⟩
  have O8 := hid hO.reads
  have P8 := hid (O7.out.below hB).reads
  have S8 := hid (S7.out.below hB)
  clear hO hB S7 O7
  go_wp2_with fail
  refine (K3.out w8 A7 c7 A8 c8 P8.out O8.out).mono ?_
  rintro e w9 ⟨rfl, hB⟩
  have S9 := hid (S8.out.below hB)
  clear hB S8 O8 P8
  have SA := hid (S9.out.below (below_box w9 XX))
  obtain ⟨w10, hw10⟩ : ∃ w10, w10 = (w9.alloc (.cells (agi Z4) 29)).setRow w9.heap.size (agi XX) := ⟨_, rfl⟩
  rw [← hw10] at SA
  rw [show agi Z4 = #[.int .i64 0, .int .i64 0, .int .i64 0, .int .i64 0] from rfl] at hw10
  have HWA := hid hw10
  clear hw10 S9
  go_wp2_with (first
    | (refine wpList_storeI rfl 29 (.tmp 11) (.tmp 34) rfl _ 29 Z4 XX 4 rfl rfl (IB.new w9 _ Z4) size4i rfl LF.out ?_; rw [← HWA.out])
    | (refine wpList_loadI rfl 29 (.tmp 5) rfl _ 29 X 4 _ rfl SA.out.G Try.underlying29 rfl size4i LX.out ?_)
    | (refine wpList_loadI rfl 29 (.tmp 8) rfl _ 29 X 4 _ rfl SA.out.H Try.underlying29 rfl size4i LX.out ?_))
  go_ret
  exact ⟨by simp, SA.out.B⟩
end Go.Proofs.Ytcfmipobgljbeaa
