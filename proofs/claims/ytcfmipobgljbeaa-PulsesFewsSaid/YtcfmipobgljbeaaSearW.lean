/- The walk of package pulses' search. -/
import Derived.Test.YtcfmipobgljbeaaWalkW
import Derived.Test.YtcfmipobgljbeaaSignW
import Derived.Test.YtcfmipobgljbeaaScoR
import Derived.Deep.RegionHeld3
namespace Go.Proofs.Ytcfmipobgljbeaa
set_option linter.unusedVariables false
set_option linter.unusedSimpArgs false
set_option maxRecDepth 100000
open Go.RowKit

/-- What a search answers. -/
def SeAns (d ring x : List Int) (w : World) (e : Ending) (w' : World) : Prop := e = .returned (.tuple #[.agg (agi (seX d ring x)), .int .i64 (seS d ring x), .int .i64 (seErr d ring)]) ∧ Below w.heap.size w w'
theorem SeAns.bad {d ring x : List Int} {w w' : World} {er : Int} (he : seErr d ring = er) (h0 : er ≠ 0) (hB : Below w.heap.size w w') : SeAns d ring x w (.returned (.tuple #[.agg (agi Z4), .int .i64 0, .int .i64 er])) w' :=
  ⟨by unfold seX seS; rw [he, if_neg h0, if_neg h0], hB⟩
theorem SeAns.good {d ring x : List Int} {w w' : World} (he : seErr d ring = 0) (hB : Below w.heap.size w w') : SeAns d ring x w (.returned (.tuple #[.agg (agi x), .int .i64 (sgnB d x 4), .int .i64 0])) w' :=
  ⟨by unfold seX seS; rw [he, if_pos rfl, if_pos rfl], hB⟩
def okD (d : List Int) : Bool := d.all fun x => decide (-1099511627776 ≤ x ∧ x ≤ 1099511627776)
theorem seErr_len {d ring : List Int} (h : ¬ (d.length = 40 ∧ ring.length = 40)) : seErr d ring = 1 := by unfold seErr; rw [if_neg h]
theorem seErr_ok {d ring : List Int} (h1 : d.length = 40) (h2 : ring.length = 40) : seErr d ring = if okD d then 0 else 2 := by unfold seErr okD; rw [if_pos ⟨h1, h2⟩]

/-- The world in which a search begins. -/
def seW (w1 : World) (gt : Nat) : World := ((((w1.alloc (.cells #[.pointer (some ⟨gt, 0, none⟩)] 66)).alloc (.cells #[.int .i64 0, .int .i64 0, .int .i64 0, .int .i64 0] 29)).alloc (.cells #[.bool true] 4)).alloc (.cells #[.int .i64 0] 3)).alloc (.cells #[.int .i64 0] 3)
theorem seW_below (w1 : World) (gt : Nat) : Below w1.heap.size w1 (seW w1 gt) := by
  unfold seW
  exact (((((Below.refl _ _).alloc (Nat.le_refl _) _).alloc (by simp) _).alloc (by simp; omega) _).alloc (by simp; omega) _).alloc (by simp; omega) _
theorem sst_start (w1 : World) (gd gt c : Nat) (A : Option Addr) (L d : List Int) (hD : Blk w1 gd 22 #[.slice A 40 c]) (hR : Rs w1 w1.heap.size A d) (hL : IB w1 gt 100 L) : Sst w1.heap.size gd A c gt L d bst0 (seW w1 gt) := by
  have hb := seW_below w1 gt
  have hT := Blk.new w1 66 #[.pointer (some ⟨gt, 0, none⟩)]
  have hX := Blk.new (w1.alloc (.cells #[.pointer (some ⟨gt, 0, none⟩)] 66)) 29 #[.int .i64 0, .int .i64 0, .int .i64 0, .int .i64 0]
  have hF := Blk.new ((w1.alloc (.cells #[.pointer (some ⟨gt, 0, none⟩)] 66)).alloc (.cells #[.int .i64 0, .int .i64 0, .int .i64 0, .int .i64 0] 29)) 4 #[.bool true]
  have hC := Blk.new (((w1.alloc (.cells #[.pointer (some ⟨gt, 0, none⟩)] 66)).alloc (.cells #[.int .i64 0, .int .i64 0, .int .i64 0, .int .i64 0] 29)).alloc (.cells #[.bool true] 4)) 3 #[.int .i64 0]
  have hE := Blk.new ((((w1.alloc (.cells #[.pointer (some ⟨gt, 0, none⟩)] 66)).alloc (.cells #[.int .i64 0, .int .i64 0, .int .i64 0, .int .i64 0] 29)).alloc (.cells #[.bool true] 4)).alloc (.cells #[.int .i64 0] 3)) 3 #[.int .i64 0]
  simp only [World.size_alloc] at hT hX hF hC hE
  exact ⟨Blk.below' hD hb, hR.below hb, Blk.alloc (Blk.alloc (Blk.alloc (Blk.alloc hT _) _) _) _, Blk.below' hL hb, Blk.alloc (Blk.alloc (Blk.alloc hX _) _) _, Blk.alloc (Blk.alloc hF _) _, Blk.alloc hC _, hE, Blk.lt hD, Blk.lt hL⟩

set_option maxHeartbeats 8000000 in
theorem searchAll_any (A A2 : Option Addr) (c c2 n1 n2 : Nat) (d ring : List Int) (l : List (List Int))  (w : World) (hd : Rs w w.heap.size A d) (hr : Rs w w.heap.size A2 ring) (l1 : d.length = n1) (l2 : ring.length = n2) (rw_ : W64 ring) (hlx : ∀ x ∈ l, Ix x)
    (KW : d.length = 40 → ∀ (g gd gt : Nat) (L : List Int) (s0 : Bst) (W : World), Below w.heap.size w W → w.heap.size ≤ g → Sst g gd A c gt L d s0 W → Tbl L ring 40 0 → Ix s0.at_ → in64 s0 →
      Calls Try.prog 56 #[bestFn g gd] W (fun e w' => e = .returned (.tuple #[]) ∧ Sst g gd A c gt L d (l.foldl (bstS d ring) s0) w' ∧ Onl g W w')) :
    Calls Try.prog 50 #[.slice A n1 c, .slice A2 n2 c2, .func (.func 56) #[] #[]] w (SeAns d ring (bestL d ring l).at_ w) := by
  have hR := results_row3 (fn := Try.f50) (p := 6) (q := 7) (r := 8) (ty := 29) rfl
  have FB := hid (fun (er : Int) (he : seErr d ring = er) (h0 : er ≠ 0) w' (hB : Below w.heap.size w w') => SeAns.bad (x := (bestL d ring l).at_) he h0 hB)
  have B0 := hid (((Below.refl w.heap.size w).alloc (Nat.le_refl _) (.cells #[.slice A n1 c] 22)).alloc (by simp) (.cells (agi Z4) 29))
  have D0 := hid (Blk.alloc (Blk.new w 22 #[.slice A n1 c]) (.cells (agi Z4) 29))
  have Z0 := IB.new (w.alloc (.cells #[.slice A n1 c] 22)) 29 Z4
  simp only [World.size_alloc] at Z0
  have HB0 := hid Z0
  clear Z0
  have z4 : agi Z4 = #[.int .i64 0, .int .i64 0, .int .i64 0, .int .i64 0] := rfl
  rw [z4] at B0 D0 HB0
  obtain ⟨V, hV⟩ : ∃ V, V = (w.alloc (.cells #[.slice A n1 c] 22)).alloc (.cells #[.int .i64 0, .int .i64 0, .int .i64 0, .int .i64 0] 29) := ⟨_, rfl⟩
  rw [← hV] at B0 D0 HB0
  have HV := hid hV
  have HD := hid ((hd.below B0.out).more B0.out.size)
  have HR := hid ((hr.below B0.out).more B0.out.size)
  have DL := hid l1
  have RL := hid l2
  have RW := hid rw_
  have HLX := hid hlx
  have HKW := hid KW
  have cD : V.cell? ⟨w.heap.size, 0, none⟩ = some (.slice A n1 c) := Blk.cell D0.out 0
  rw [hV] at cD
  clear hV hd hr l1 l2 rw_ hlx KW z4
  have RB := hid (IB.setRow HB0.out Z4)
  have BB := hid (below_setRow B0.out (g := w.heap.size + 1) (by omega) (agi Z4))
  by_cases hl : n1 = 40
  rotate_left
  · have HE := hid (seErr_len (d := d) (ring := ring) (by have := DL.out; omega))
    have d0 : ((n1 : Int) != 40) = true := by simp; omega
    have d1 : ¬ (n1 : Int) = 40 := by omega
    clear hl
    have X0 := HB0.out
    have X1 := RB.out
    have X2 := BB.out
    rw [HV.out] at X0 X1 X2
    have X0 := hid X0
    have X1 := hid X1
    have X2 := hid X2
    rename_i X0r X1r X2r
    clear X0r X1r X2r
    go_enter Try.func50, Try.ntmps50
    go_wp2_with (refine wpList_storeI rfl 29 (.tmp 6) (.tmp 24) rfl _ 29 Z4 Z4 4 rfl rfl X0.out size4i rfl rfl ?_)
    refine bodyPost_ret (v := _) (hR _ _ _ 29 Z4 _ 4 rfl X1.out Try.underlying29 rfl size4i rfl) rfl ?_
    exact FB.out _ HE.out (by decide) _ X2.out
  subst hl
  by_cases hl2 : n2 = 40
  rotate_left
  · have HE := hid (seErr_len (d := d) (ring := ring) (by have := RL.out; omega))
    have d0 : ((n2 : Int) != 40) = true := by simp; omega
    have d1 : ¬ (n2 : Int) = 40 := by omega
    clear hl2
    have X0 := HB0.out
    have X1 := RB.out
    have X2 := BB.out
    rw [HV.out] at X0 X1 X2
    have X0 := hid X0
    have X1 := hid X1
    have X2 := hid X2
    rename_i X0r X1r X2r
    clear X0r X1r X2r
    go_enter Try.func50, Try.ntmps50
    go_wp2_with (refine wpList_storeI rfl 29 (.tmp 6) (.tmp 24) rfl _ 29 Z4 Z4 4 rfl rfl X0.out size4i rfl rfl ?_)
    refine bodyPost_ret (v := _) (hR _ _ _ 29 Z4 _ 4 rfl X1.out Try.underlying29 rfl size4i rfl) rfl ?_
    exact FB.out _ HE.out (by decide) _ X2.out
  subst hl2
  have HE := hid (seErr_ok DL.out RL.out)
  go_enter Try.func50, Try.ntmps50
  go_wp2
  rw [← HV.out]
  clear cD
  go_loop [27] (fun iv => ∃ i : Nat, i ≤ 40 ∧ iv = .int .i64 i ∧ Hid (allTo (fun x => decide (-1099511627776 ≤ x ∧ x ≤ 1099511627776)) d i)) (fun iv => 40 - (intOf iv).toNat)
  case atStart => exact ⟨0, by omega, rfl, hid allTo.zero⟩
  case round =>
    obtain ⟨i, hi, rfl, HY⟩ := hrel
    by_cases hlt : i < 40
    · obtain ⟨ad, rfl, _, c0⟩ := HD.out.at_ (k := i) (by rw [DL.out]; exact hlt)
      obtain ⟨x, hx⟩ : ∃ x, x = d.getD i 0 := ⟨_, rfl⟩
      rw [← hx] at c0
      by_cases hb : x < -1099511627776 ∨ 1099511627776 < x
      · have HE2 := hid (show seErr d ring = 2 by rw [HE.out, show okD d = false from all_no (i := i) (by rw [DL.out]; exact hlt) (by rw [← hx]; simp; omega)]; rfl)
        clear hx
        rcases hb with hb | hb
        · have e1 : decide (x < -1099511627776) = true := by simpa using hb
          go_wp2_with (refine wpList_storeI rfl 29 (.tmp 6) (.tmp 37) rfl _ 29 Z4 Z4 4 rfl rfl HB0.out size4i rfl rfl ?_)
          refine bodyPost_ret (v := _) (hR _ _ _ 29 Z4 _ 4 rfl RB.out Try.underlying29 rfl size4i rfl) rfl ?_
          exact FB.out _ HE2.out (by decide) _ BB.out
        · have e1 : decide (x < -1099511627776) = false := by simp; omega
          have e3 : decide (1099511627776 < x) = true := by simp; omega
          go_wp2_with (refine wpList_storeI rfl 29 (.tmp 6) (.tmp 37) rfl _ 29 Z4 Z4 4 rfl rfl HB0.out size4i rfl rfl ?_)
          refine bodyPost_ret (v := _) (hR _ _ _ 29 Z4 _ 4 rfl RB.out Try.underlying29 rfl size4i rfl) rfl ?_
          exact FB.out _ HE2.out (by decide) _ BB.out
      · have HN := hid (HY.out.succ (by rw [← hx]; simp; omega))
        have e1 : decide (x < -1099511627776) = false := by simp; omega
        have e3 : decide (1099511627776 < x) = false := by simp; omega
        clear hb hx
        go_wp2
        go_round
        case rel => exact ⟨i + 1, by omega, by go_num, HN⟩
        case measure => simp [intOf] <;> omega
    · obtain rfl : i = 40 := by omega
      have OK := hid (show okD d = true from HY.out.all (by rw [DL.out]; exact Nat.le_refl _))
      have HE2 := hid (show seErr d ring = 0 by rw [HE.out, OK.out]; rfl)
      clear HY HE hlt hi RB BB FB
      have KE := hid (energies_any A2 c2 ring V HR.out RL.out RW.out)
      go_wp2_with fail
      refine KE.out.mono ?_
      rintro e w1 ⟨L, rfl, hI, hT, hB⟩
      have L1 := hid hI
      have T1 := hid hT
      have D1 := hid (Blk.below' D0.out hB)
      have Z1 := hid (Blk.below' HB0.out hB)
      have R1 := hid ((HD.out.below hB).more hB.size)
      have B1 := hid (B0.out.trans (hB.mono B0.out.size))
      have GT := hid (Blk.lt hI)
      clear hI hT hB KE HR HD D0 HB0 B0
      have S2 := hid (sst_start w1 w.heap.size V.heap.size c A L d D1.out R1.out L1.out)
      have B2 := hid (B1.out.trans ((seW_below w1 V.heap.size).mono B1.out.size))
      have Z2 := hid (Blk.below' Z1.out (seW_below w1 V.heap.size))
      have LZ := hid (Blk.lt Z1.out)
      have W5 := hid (show seW w1 V.heap.size = _ from rfl)
      have KW1 := hid (HKW.out DL.out w1.heap.size w.heap.size V.heap.size L bst0 (seW w1 V.heap.size) B2.out B1.out.size S2.out T1.out ix_Z4 ⟨⟨by decide, by decide⟩, ⟨by decide, by decide⟩⟩)
      have IXB := hid (bestL_ix (d := d) (ring := ring) (s := bst0) ix_Z4 HLX.out)
      obtain ⟨P, hP⟩ : ∃ P, P = SeAns d ring (bestL d ring l).at_ w := ⟨_, rfl⟩
      have FG := hid (fun w' (hB : Below w.heap.size w w') => show P (.returned (.tuple #[.agg (agi (bestL d ring l).at_), .int .i64 (sgnB d (bestL d ring l).at_ 4), .int .i64 0])) w' from by rw [hP]; exact SeAns.good (x := (bestL d ring l).at_) HE2.out hB)
      have HP := hid hP
      clear hP
      have KSG := hid (fun W (h : Rs W W.heap.size A d) => signs_any A c d (bestL d ring l).at_ W h DL.out IXB.out)
      unfold bestL at FG KSG
      unfold bestFn seW at KW1
      generalize l.foldl (bstS d ring) bst0 = sb at *
      clear D1 R1 L1 T1 Z1 B1 HKW HLX RW
      go_wp2_with fail
      refine KW1.out.mono ?_
      rintro e w2 ⟨rfl, hS, hO⟩
      have J3 : IB w2 (w1.heap.size + 1) 29 sb.at_ := hS.X
      have cD : w2.cell? ⟨w.heap.size, 0, none⟩ = some (.slice A 40 c) := Blk.cell hS.D 0
      have R3 := hid (show Rs w2.drew w2.drew.heap.size A d from hS.R.more (by have := hS.lt; show w1.heap.size ≤ w2.heap.size; omega))
      have D3 := hid hS.D
      have Z3 := hid (show IB w2 (w.heap.size + 1) 29 Z4 from hO.blk Z2.out (.inl LZ.out))
      have B3 := hid (show Below w.heap.size w w2 from B2.out.trans ⟨hO.b.os, hO.b.tape, hO.b.output, hO.b.size, fun k hk => hO.b.block k (by have := LZ.out; omega)⟩)
      clear hS hO KW1 S2 B2 Z2 W5
      have IXL := IXB.out.1
      have KSG := KSG.out
      have FG := FG.out
      obtain ⟨xs, hxs⟩ : ∃ xs, xs = sb.at_ := ⟨_, rfl⟩
      rw [← hxs] at J3 IXL KSG FG
      obtain ⟨x0, x1, x2, x3, rfl⟩ := list4 IXL
      have J3 := hid J3
      generalize sgnB d [x0, x1, x2, x3] 4 = sv at *
      have KS1 := hid (show Calls Try.prog 52 #[.slice A 40 c, .agg #[.int .i64 x0, .int .i64 x1, .int .i64 x2, .int .i64 x3]] w2.drew (fun e w' => e = .returned (.int .i64 sv) ∧ Below w2.drew.heap.size w2.drew w') from KSG w2.drew R3.out)
      have FG := hid FG
      rename_i J3r KSGr FGr
      have LG : ¬ w.heap.size + 1 = w1.heap.size + 1 := by have := LZ.out; omega
      have LG2 : ¬ w1.heap.size + 1 = w.heap.size + 1 := by have := LZ.out; omega
      have LG5 : ¬ w.heap.size = w1.heap.size := by have := LZ.out; omega
      have LG6 : ¬ w1.heap.size = w.heap.size := by have := LZ.out; omega
      have LG3 : ¬ w.heap.size = w.heap.size + 1 := by omega
      have LG4 : ¬ w.heap.size = w1.heap.size + 1 := by have := LZ.out; omega
      have J3' := J3.out
      have k0 : World.cell? w2 ⟨w1.heap.size + 1, 0, none⟩ = some (.int .i64 x0) := IB.cell J3' 0 (by first | decide | simp); have k1 : World.cell? w2 ⟨w1.heap.size + 1, 1, none⟩ = some (.int .i64 x1) := IB.cell J3' 1 (by first | decide | simp); have k2 : World.cell? w2 ⟨w1.heap.size + 1, 2, none⟩ = some (.int .i64 x2) := IB.cell J3' 2 (by first | decide | simp); have k3 : World.cell? w2 ⟨w1.heap.size + 1, 3, none⟩ = some (.int .i64 x3) := IB.cell J3' 3 (by first | decide | simp)
      clear J3' KSG IXL hxs IXB OK
      go_wp2
      go_region_held3 (fun w' => w'.cell? ⟨w1.heap.size + 1, 0, none⟩ = some (.int .i64 x0) ∧ w'.cell? ⟨w1.heap.size + 1, 1, none⟩ = some (.int .i64 x1) ∧ w'.cell? ⟨w1.heap.size + 1, 2, none⟩ = some (.int .i64 x2) ∧ w'.cell? ⟨w1.heap.size + 1, 3, none⟩ = some (.int .i64 x3) ∧ w'.cell? ⟨w.heap.size, 0, none⟩ = some (.slice A 40 c)) (go_keep) (first
        | (go_at_call 52; (with_reducible refine KS1.out.mono ?_); rintro e w3 ⟨rfl, hB⟩; have J4 : IB w3 (w1.heap.size + 1) 29 [x0, x1, x2, x3] := Blk.below' (Blk.drew J3.out) hB; have cD4 : w3.cell? ⟨w.heap.size, 0, none⟩ = some (.slice A 40 c) := Blk.cell (Blk.below' (Blk.drew D3.out) hB) 0; have Z4' : IB w3 (w.heap.size + 1) 29 Z4 := Blk.below' (Blk.drew Z3.out) hB; have B4 := hid (show Below w.heap.size w w3 from B3.out.drew.trans (hB.mono B3.out.size)); have l0 : World.cell? w3 ⟨w1.heap.size + 1, 0, none⟩ = some (.int .i64 x0) := IB.cell J4 0 (by first | decide | simp); have l1 : World.cell? w3 ⟨w1.heap.size + 1, 1, none⟩ = some (.int .i64 x1) := IB.cell J4 1 (by first | decide | simp); have l2 : World.cell? w3 ⟨w1.heap.size + 1, 2, none⟩ = some (.int .i64 x2) := IB.cell J4 2 (by first | decide | simp); have l3 : World.cell? w3 ⟨w1.heap.size + 1, 3, none⟩ = some (.int .i64 x3) := IB.cell J4 3 (by first | decide | simp); have z0 : World.cell? w3 ⟨w.heap.size + 1, 0, none⟩ = some (.int .i64 0) := IB.cell Z4' 0 (by first | decide | simp); have z1 : World.cell? w3 ⟨w.heap.size + 1, 1, none⟩ = some (.int .i64 0) := IB.cell Z4' 1 (by first | decide | simp); have z2 : World.cell? w3 ⟨w.heap.size + 1, 2, none⟩ = some (.int .i64 0) := IB.cell Z4' 2 (by first | decide | simp); have z3 : World.cell? w3 ⟨w.heap.size + 1, 3, none⟩ = some (.int .i64 0) := IB.cell Z4' 3 (by first | decide | simp); have y0 : World.frozen? w3 ⟨w.heap.size + 1, 0, none⟩ = false := Blk.frozen Z4' 0; have y1 : World.frozen? w3 ⟨w.heap.size + 1, 1, none⟩ = false := Blk.frozen Z4' 1; have y2 : World.frozen? w3 ⟨w.heap.size + 1, 2, none⟩ = false := Blk.frozen Z4' 2; have y3 : World.frozen? w3 ⟨w.heap.size + 1, 3, none⟩ = false := Blk.frozen Z4' 3; have J4 := hid J4; have Z5 := hid Z4'; clear hB Z4'))
      rename_i hHeldZ
      clear hHeldZ
      clear k0 k1 k2 k3 l0 l1 l2 l3 z0 z1 z2 z3 y0 y1 y2 y3
      simp only [Exit.then]
      have RF := hid (show IB ((((w3.setCell ⟨w.heap.size + 1, 0, none⟩ (.int .i64 x0)).setCell ⟨w.heap.size + 1, 1, none⟩ (.int .i64 x1)).setCell ⟨w.heap.size + 1, 2, none⟩ (.int .i64 x2)).setCell ⟨w.heap.size + 1, 3, none⟩ (.int .i64 x3)) (w.heap.size + 1) 29 [x0, x1, x2, x3] from IB.set_ (IB.set_ (IB.set_ (IB.set_ Z5.out 0 x0) 1 x1) 2 x2) 3 x3)
      have BF := hid (show Below w.heap.size w ((((w3.setCell ⟨w.heap.size + 1, 0, none⟩ (.int .i64 x0)).setCell ⟨w.heap.size + 1, 1, none⟩ (.int .i64 x1)).setCell ⟨w.heap.size + 1, 2, none⟩ (.int .i64 x2)).setCell ⟨w.heap.size + 1, 3, none⟩ (.int .i64 x3)) from (((B4.out.setCell (p := ⟨w.heap.size + 1, 0, none⟩) (by show w.heap.size ≤ w.heap.size + 1; omega) _).setCell (p := ⟨w.heap.size + 1, 1, none⟩) (by show w.heap.size ≤ w.heap.size + 1; omega) _).setCell (p := ⟨w.heap.size + 1, 2, none⟩) (by show w.heap.size ≤ w.heap.size + 1; omega) _).setCell (p := ⟨w.heap.size + 1, 3, none⟩) (by show w.heap.size ≤ w.heap.size + 1; omega) _)
      go_wp2
      refine bodyPost_ret (v := _) (hR _ _ _ 29 [x0, x1, x2, x3] _ 4 rfl RF.out Try.underlying29 rfl size4i rfl) rfl ?_
      have := FG.out _ BF.out
      rw [HP.out] at this
      exact this
set_option maxHeartbeats 8000000 in
theorem searchFew_any (A A2 : Option Addr) (c c2 n1 n2 : Nat) (d ring : List Int) (l : List (List Int)) (pw qw : Value) (w : World) (hd : Rs w w.heap.size A d) (hr : Rs w w.heap.size A2 ring) (l1 : d.length = n1) (l2 : ring.length = n2) (rw_ : W64 ring) (hlx : ∀ x ∈ l, Ix x)
    (KW : d.length = 40 → ∀ (g gd gt : Nat) (L : List Int) (s0 : Bst) (W : World), Below w.heap.size w W → w.heap.size ≤ g → Sst g gd A c gt L d s0 W → Tbl L ring 40 0 → Ix s0.at_ → in64 s0 →
      Calls Try.prog 51 #[bestFn g gd, pw, qw] W (fun e w' => e = .returned (.tuple #[]) ∧ Sst g gd A c gt L d (l.foldl (bstS d ring) s0) w' ∧ Onl g W w')) :
    Calls Try.prog 50 #[.slice A n1 c, .slice A2 n2 c2, .func (.func 51) #[] #[pw, qw]] w (SeAns d ring (bestL d ring l).at_ w) := by
  have hR := results_row3 (fn := Try.f50) (p := 6) (q := 7) (r := 8) (ty := 29) rfl
  have FB := hid (fun (er : Int) (he : seErr d ring = er) (h0 : er ≠ 0) w' (hB : Below w.heap.size w w') => SeAns.bad (x := (bestL d ring l).at_) he h0 hB)
  have B0 := hid (((Below.refl w.heap.size w).alloc (Nat.le_refl _) (.cells #[.slice A n1 c] 22)).alloc (by simp) (.cells (agi Z4) 29))
  have D0 := hid (Blk.alloc (Blk.new w 22 #[.slice A n1 c]) (.cells (agi Z4) 29))
  have Z0 := IB.new (w.alloc (.cells #[.slice A n1 c] 22)) 29 Z4
  simp only [World.size_alloc] at Z0
  have HB0 := hid Z0
  clear Z0
  have z4 : agi Z4 = #[.int .i64 0, .int .i64 0, .int .i64 0, .int .i64 0] := rfl
  rw [z4] at B0 D0 HB0
  obtain ⟨V, hV⟩ : ∃ V, V = (w.alloc (.cells #[.slice A n1 c] 22)).alloc (.cells #[.int .i64 0, .int .i64 0, .int .i64 0, .int .i64 0] 29) := ⟨_, rfl⟩
  rw [← hV] at B0 D0 HB0
  have HV := hid hV
  have HD := hid ((hd.below B0.out).more B0.out.size)
  have HR := hid ((hr.below B0.out).more B0.out.size)
  have DL := hid l1
  have RL := hid l2
  have RW := hid rw_
  have HLX := hid hlx
  have HKW := hid KW
  have cD : V.cell? ⟨w.heap.size, 0, none⟩ = some (.slice A n1 c) := Blk.cell D0.out 0
  rw [hV] at cD
  clear hV hd hr l1 l2 rw_ hlx KW z4
  have RB := hid (IB.setRow HB0.out Z4)
  have BB := hid (below_setRow B0.out (g := w.heap.size + 1) (by omega) (agi Z4))
  by_cases hl : n1 = 40
  rotate_left
  · have HE := hid (seErr_len (d := d) (ring := ring) (by have := DL.out; omega))
    have d0 : ((n1 : Int) != 40) = true := by simp; omega
    have d1 : ¬ (n1 : Int) = 40 := by omega
    clear hl
    have X0 := HB0.out
    have X1 := RB.out
    have X2 := BB.out
    rw [HV.out] at X0 X1 X2
    have X0 := hid X0
    have X1 := hid X1
    have X2 := hid X2
    rename_i X0r X1r X2r
    clear X0r X1r X2r
    go_enter Try.func50, Try.ntmps50
    go_wp2_with (refine wpList_storeI rfl 29 (.tmp 6) (.tmp 24) rfl _ 29 Z4 Z4 4 rfl rfl X0.out size4i rfl rfl ?_)
    refine bodyPost_ret (v := _) (hR _ _ _ 29 Z4 _ 4 rfl X1.out Try.underlying29 rfl size4i rfl) rfl ?_
    exact FB.out _ HE.out (by decide) _ X2.out
  subst hl
  by_cases hl2 : n2 = 40
  rotate_left
  · have HE := hid (seErr_len (d := d) (ring := ring) (by have := RL.out; omega))
    have d0 : ((n2 : Int) != 40) = true := by simp; omega
    have d1 : ¬ (n2 : Int) = 40 := by omega
    clear hl2
    have X0 := HB0.out
    have X1 := RB.out
    have X2 := BB.out
    rw [HV.out] at X0 X1 X2
    have X0 := hid X0
    have X1 := hid X1
    have X2 := hid X2
    rename_i X0r X1r X2r
    clear X0r X1r X2r
    go_enter Try.func50, Try.ntmps50
    go_wp2_with (refine wpList_storeI rfl 29 (.tmp 6) (.tmp 24) rfl _ 29 Z4 Z4 4 rfl rfl X0.out size4i rfl rfl ?_)
    refine bodyPost_ret (v := _) (hR _ _ _ 29 Z4 _ 4 rfl X1.out Try.underlying29 rfl size4i rfl) rfl ?_
    exact FB.out _ HE.out (by decide) _ X2.out
  subst hl2
  have HE := hid (seErr_ok DL.out RL.out)
  go_enter Try.func50, Try.ntmps50
  go_wp2
  rw [← HV.out]
  clear cD
  go_loop [27] (fun iv => ∃ i : Nat, i ≤ 40 ∧ iv = .int .i64 i ∧ Hid (allTo (fun x => decide (-1099511627776 ≤ x ∧ x ≤ 1099511627776)) d i)) (fun iv => 40 - (intOf iv).toNat)
  case atStart => exact ⟨0, by omega, rfl, hid allTo.zero⟩
  case round =>
    obtain ⟨i, hi, rfl, HY⟩ := hrel
    by_cases hlt : i < 40
    · obtain ⟨ad, rfl, _, c0⟩ := HD.out.at_ (k := i) (by rw [DL.out]; exact hlt)
      obtain ⟨x, hx⟩ : ∃ x, x = d.getD i 0 := ⟨_, rfl⟩
      rw [← hx] at c0
      by_cases hb : x < -1099511627776 ∨ 1099511627776 < x
      · have HE2 := hid (show seErr d ring = 2 by rw [HE.out, show okD d = false from all_no (i := i) (by rw [DL.out]; exact hlt) (by rw [← hx]; simp; omega)]; rfl)
        clear hx
        rcases hb with hb | hb
        · have e1 : decide (x < -1099511627776) = true := by simpa using hb
          go_wp2_with (refine wpList_storeI rfl 29 (.tmp 6) (.tmp 37) rfl _ 29 Z4 Z4 4 rfl rfl HB0.out size4i rfl rfl ?_)
          refine bodyPost_ret (v := _) (hR _ _ _ 29 Z4 _ 4 rfl RB.out Try.underlying29 rfl size4i rfl) rfl ?_
          exact FB.out _ HE2.out (by decide) _ BB.out
        · have e1 : decide (x < -1099511627776) = false := by simp; omega
          have e3 : decide (1099511627776 < x) = true := by simp; omega
          go_wp2_with (refine wpList_storeI rfl 29 (.tmp 6) (.tmp 37) rfl _ 29 Z4 Z4 4 rfl rfl HB0.out size4i rfl rfl ?_)
          refine bodyPost_ret (v := _) (hR _ _ _ 29 Z4 _ 4 rfl RB.out Try.underlying29 rfl size4i rfl) rfl ?_
          exact FB.out _ HE2.out (by decide) _ BB.out
      · have HN := hid (HY.out.succ (by rw [← hx]; simp; omega))
        have e1 : decide (x < -1099511627776) = false := by simp; omega
        have e3 : decide (1099511627776 < x) = false := by simp; omega
        clear hb hx
        go_wp2
        go_round
        case rel => exact ⟨i + 1, by omega, by go_num, HN⟩
        case measure => simp [intOf] <;> omega
    · obtain rfl : i = 40 := by omega
      have OK := hid (show okD d = true from HY.out.all (by rw [DL.out]; exact Nat.le_refl _))
      have HE2 := hid (show seErr d ring = 0 by rw [HE.out, OK.out]; rfl)
      clear HY HE hlt hi RB BB FB
      have KE := hid (energies_any A2 c2 ring V HR.out RL.out RW.out)
      go_wp2_with fail
      refine KE.out.mono ?_
      rintro e w1 ⟨L, rfl, hI, hT, hB⟩
      have L1 := hid hI
      have T1 := hid hT
      have D1 := hid (Blk.below' D0.out hB)
      have Z1 := hid (Blk.below' HB0.out hB)
      have R1 := hid ((HD.out.below hB).more hB.size)
      have B1 := hid (B0.out.trans (hB.mono B0.out.size))
      have GT := hid (Blk.lt hI)
      clear hI hT hB KE HR HD D0 HB0 B0
      have S2 := hid (sst_start w1 w.heap.size V.heap.size c A L d D1.out R1.out L1.out)
      have B2 := hid (B1.out.trans ((seW_below w1 V.heap.size).mono B1.out.size))
      have Z2 := hid (Blk.below' Z1.out (seW_below w1 V.heap.size))
      have LZ := hid (Blk.lt Z1.out)
      have W5 := hid (show seW w1 V.heap.size = _ from rfl)
      have KW1 := hid (HKW.out DL.out w1.heap.size w.heap.size V.heap.size L bst0 (seW w1 V.heap.size) B2.out B1.out.size S2.out T1.out ix_Z4 ⟨⟨by decide, by decide⟩, ⟨by decide, by decide⟩⟩)
      have IXB := hid (bestL_ix (d := d) (ring := ring) (s := bst0) ix_Z4 HLX.out)
      obtain ⟨P, hP⟩ : ∃ P, P = SeAns d ring (bestL d ring l).at_ w := ⟨_, rfl⟩
      have FG := hid (fun w' (hB : Below w.heap.size w w') => show P (.returned (.tuple #[.agg (agi (bestL d ring l).at_), .int .i64 (sgnB d (bestL d ring l).at_ 4), .int .i64 0])) w' from by rw [hP]; exact SeAns.good (x := (bestL d ring l).at_) HE2.out hB)
      have HP := hid hP
      clear hP
      have KSG := hid (fun W (h : Rs W W.heap.size A d) => signs_any A c d (bestL d ring l).at_ W h DL.out IXB.out)
      unfold bestL at FG KSG
      unfold bestFn seW at KW1
      generalize l.foldl (bstS d ring) bst0 = sb at *
      clear D1 R1 L1 T1 Z1 B1 HKW HLX RW
      go_wp2_with fail
      refine KW1.out.mono ?_
      rintro e w2 ⟨rfl, hS, hO⟩
      have J3 : IB w2 (w1.heap.size + 1) 29 sb.at_ := hS.X
      have cD : w2.cell? ⟨w.heap.size, 0, none⟩ = some (.slice A 40 c) := Blk.cell hS.D 0
      have R3 := hid (show Rs w2.drew w2.drew.heap.size A d from hS.R.more (by have := hS.lt; show w1.heap.size ≤ w2.heap.size; omega))
      have D3 := hid hS.D
      have Z3 := hid (show IB w2 (w.heap.size + 1) 29 Z4 from hO.blk Z2.out (.inl LZ.out))
      have B3 := hid (show Below w.heap.size w w2 from B2.out.trans ⟨hO.b.os, hO.b.tape, hO.b.output, hO.b.size, fun k hk => hO.b.block k (by have := LZ.out; omega)⟩)
      clear hS hO KW1 S2 B2 Z2 W5
      have IXL := IXB.out.1
      have KSG := KSG.out
      have FG := FG.out
      obtain ⟨xs, hxs⟩ : ∃ xs, xs = sb.at_ := ⟨_, rfl⟩
      rw [← hxs] at J3 IXL KSG FG
      obtain ⟨x0, x1, x2, x3, rfl⟩ := list4 IXL
      have J3 := hid J3
      generalize sgnB d [x0, x1, x2, x3] 4 = sv at *
      have KS1 := hid (show Calls Try.prog 52 #[.slice A 40 c, .agg #[.int .i64 x0, .int .i64 x1, .int .i64 x2, .int .i64 x3]] w2.drew (fun e w' => e = .returned (.int .i64 sv) ∧ Below w2.drew.heap.size w2.drew w') from KSG w2.drew R3.out)
      have FG := hid FG
      rename_i J3r KSGr FGr
      have LG : ¬ w.heap.size + 1 = w1.heap.size + 1 := by have := LZ.out; omega
      have LG2 : ¬ w1.heap.size + 1 = w.heap.size + 1 := by have := LZ.out; omega
      have LG5 : ¬ w.heap.size = w1.heap.size := by have := LZ.out; omega
      have LG6 : ¬ w1.heap.size = w.heap.size := by have := LZ.out; omega
      have LG3 : ¬ w.heap.size = w.heap.size + 1 := by omega
      have LG4 : ¬ w.heap.size = w1.heap.size + 1 := by have := LZ.out; omega
      have J3' := J3.out
      have k0 : World.cell? w2 ⟨w1.heap.size + 1, 0, none⟩ = some (.int .i64 x0) := IB.cell J3' 0 (by first | decide | simp); have k1 : World.cell? w2 ⟨w1.heap.size + 1, 1, none⟩ = some (.int .i64 x1) := IB.cell J3' 1 (by first | decide | simp); have k2 : World.cell? w2 ⟨w1.heap.size + 1, 2, none⟩ = some (.int .i64 x2) := IB.cell J3' 2 (by first | decide | simp); have k3 : World.cell? w2 ⟨w1.heap.size + 1, 3, none⟩ = some (.int .i64 x3) := IB.cell J3' 3 (by first | decide | simp)
      clear J3' KSG IXL hxs IXB OK
      go_wp2
      go_region_held3 (fun w' => w'.cell? ⟨w1.heap.size + 1, 0, none⟩ = some (.int .i64 x0) ∧ w'.cell? ⟨w1.heap.size + 1, 1, none⟩ = some (.int .i64 x1) ∧ w'.cell? ⟨w1.heap.size + 1, 2, none⟩ = some (.int .i64 x2) ∧ w'.cell? ⟨w1.heap.size + 1, 3, none⟩ = some (.int .i64 x3) ∧ w'.cell? ⟨w.heap.size, 0, none⟩ = some (.slice A 40 c)) (go_keep) (first
        | (go_at_call 52; (with_reducible refine KS1.out.mono ?_); rintro e w3 ⟨rfl, hB⟩; have J4 : IB w3 (w1.heap.size + 1) 29 [x0, x1, x2, x3] := Blk.below' (Blk.drew J3.out) hB; have cD4 : w3.cell? ⟨w.heap.size, 0, none⟩ = some (.slice A 40 c) := Blk.cell (Blk.below' (Blk.drew D3.out) hB) 0; have Z4' : IB w3 (w.heap.size + 1) 29 Z4 := Blk.below' (Blk.drew Z3.out) hB; have B4 := hid (show Below w.heap.size w w3 from B3.out.drew.trans (hB.mono B3.out.size)); have l0 : World.cell? w3 ⟨w1.heap.size + 1, 0, none⟩ = some (.int .i64 x0) := IB.cell J4 0 (by first | decide | simp); have l1 : World.cell? w3 ⟨w1.heap.size + 1, 1, none⟩ = some (.int .i64 x1) := IB.cell J4 1 (by first | decide | simp); have l2 : World.cell? w3 ⟨w1.heap.size + 1, 2, none⟩ = some (.int .i64 x2) := IB.cell J4 2 (by first | decide | simp); have l3 : World.cell? w3 ⟨w1.heap.size + 1, 3, none⟩ = some (.int .i64 x3) := IB.cell J4 3 (by first | decide | simp); have z0 : World.cell? w3 ⟨w.heap.size + 1, 0, none⟩ = some (.int .i64 0) := IB.cell Z4' 0 (by first | decide | simp); have z1 : World.cell? w3 ⟨w.heap.size + 1, 1, none⟩ = some (.int .i64 0) := IB.cell Z4' 1 (by first | decide | simp); have z2 : World.cell? w3 ⟨w.heap.size + 1, 2, none⟩ = some (.int .i64 0) := IB.cell Z4' 2 (by first | decide | simp); have z3 : World.cell? w3 ⟨w.heap.size + 1, 3, none⟩ = some (.int .i64 0) := IB.cell Z4' 3 (by first | decide | simp); have y0 : World.frozen? w3 ⟨w.heap.size + 1, 0, none⟩ = false := Blk.frozen Z4' 0; have y1 : World.frozen? w3 ⟨w.heap.size + 1, 1, none⟩ = false := Blk.frozen Z4' 1; have y2 : World.frozen? w3 ⟨w.heap.size + 1, 2, none⟩ = false := Blk.frozen Z4' 2; have y3 : World.frozen? w3 ⟨w.heap.size + 1, 3, none⟩ = false := Blk.frozen Z4' 3; have J4 := hid J4; have Z5 := hid Z4'; clear hB Z4'))
      rename_i hHeldZ
      clear hHeldZ
      clear k0 k1 k2 k3 l0 l1 l2 l3 z0 z1 z2 z3 y0 y1 y2 y3
      simp only [Exit.then]
      have RF := hid (show IB ((((w3.setCell ⟨w.heap.size + 1, 0, none⟩ (.int .i64 x0)).setCell ⟨w.heap.size + 1, 1, none⟩ (.int .i64 x1)).setCell ⟨w.heap.size + 1, 2, none⟩ (.int .i64 x2)).setCell ⟨w.heap.size + 1, 3, none⟩ (.int .i64 x3)) (w.heap.size + 1) 29 [x0, x1, x2, x3] from IB.set_ (IB.set_ (IB.set_ (IB.set_ Z5.out 0 x0) 1 x1) 2 x2) 3 x3)
      have BF := hid (show Below w.heap.size w ((((w3.setCell ⟨w.heap.size + 1, 0, none⟩ (.int .i64 x0)).setCell ⟨w.heap.size + 1, 1, none⟩ (.int .i64 x1)).setCell ⟨w.heap.size + 1, 2, none⟩ (.int .i64 x2)).setCell ⟨w.heap.size + 1, 3, none⟩ (.int .i64 x3)) from (((B4.out.setCell (p := ⟨w.heap.size + 1, 0, none⟩) (by show w.heap.size ≤ w.heap.size + 1; omega) _).setCell (p := ⟨w.heap.size + 1, 1, none⟩) (by show w.heap.size ≤ w.heap.size + 1; omega) _).setCell (p := ⟨w.heap.size + 1, 2, none⟩) (by show w.heap.size ≤ w.heap.size + 1; omega) _).setCell (p := ⟨w.heap.size + 1, 3, none⟩) (by show w.heap.size ≤ w.heap.size + 1; omega) _)
      go_wp2
      refine bodyPost_ret (v := _) (hR _ _ _ 29 [x0, x1, x2, x3] _ 4 rfl RF.out Try.underlying29 rfl size4i rfl) rfl ?_
      have := FG.out _ BF.out
      rw [HP.out] at this
      exact this
end Go.Proofs.Ytcfmipobgljbeaa
