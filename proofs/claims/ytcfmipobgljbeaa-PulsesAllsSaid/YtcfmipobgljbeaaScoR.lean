/- The walks of the reference's S16 and Score. -/
import Derived.Test.YtcfmipobgljbeaaScoW
import Derived.Test.YtcfmipobgljbeaaMakeI
namespace Go.Proofs.Ytcfmipobgljbeaa
set_option linter.unusedVariables false
set_option linter.unusedSimpArgs false
set_option maxRecDepth 100000
open Go.RowKit

theorem S16_any (x : Int) (w : World) : Calls Try.prog 40 #[.int .i64 x] w fun e w' => e = .returned (.int .i64 (s16 x)) ∧ w' = w := by
  by_cases h1 : 32767 < x
  · have hs := hid (show s16 x = 32767 by unfold s16 lim; (repeat' split) <;> omega)
    have m1 : min x 32767 = 32767 := by omega
    go_enter Try.func40, Try.ntmps40
    go_wp2
    go_ret
    exact ⟨by rw [hs.out]; rfl, rfl⟩
  by_cases h2 : x < -32768
  · have hs := hid (show s16 x = -32768 by unfold s16 lim; (repeat' split) <;> omega)
    have m1 : min x 32767 = x := by omega
    have m2 : max x (-32768) = -32768 := by omega
    go_enter Try.func40, Try.ntmps40
    go_wp2
    go_ret
    exact ⟨by rw [hs.out]; rfl, rfl⟩
  have hs := hid (show s16 x = x by unfold s16 lim; (repeat' split) <;> omega)
  have m1 : min x 32767 = x := by omega
  have m2 : max x (-32768) = x := by omega
  go_enter Try.func40, Try.ntmps40
  go_wp2
  go_ret
  exact ⟨by rw [hs.out]; rfl, rfl⟩

theorem list4 : ∀ {l : List Int} (_ : l.length = 4), ∃ a b c d, l = [a, b, c, d]
  | [a, b, c, d], _ => ⟨a, b, c, d, rfl⟩

/-! The row of what is heard, while the track t is rung from its place up to the sample k. -/
def hrdN (d ring ix : List Int) (t k : Nat) : List Int := (List.range 40).map (fun j => if j < k then hrd d ring ix (t + 1) j else hrd d ring ix t j)
theorem hrdN_len (d ring ix : List Int) (t k : Nat) : (hrdN d ring ix t k).length = 40 := by simp [hrdN]
theorem hrd_succ (d ring ix : List Int) (t j : Nat) : hrd d ring ix (t + 1) j = hrd d ring ix t j + sg d ix t * lateE ring (plc ix t) j := rfl
theorem hrdN_at (d ring ix : List Int) (t : Nat) {k : Nat} (hk : k < 40) : (hrdN d ring ix t k).getD k 0 = hrd d ring ix t k := by
  unfold hrdN; rw [range_get _ hk, if_neg (by omega)]
theorem hrdN_set (d ring ix : List Int) {t k : Nat} (hk : k < 40) (h : plc ix t ≤ k) : (hrdN d ring ix t k).set k (hrd d ring ix t k + sg d ix t * s16 (ring.getD (k - plc ix t) 0)) = hrdN d ring ix t (k + 1) := by
  refine list_ext (by rw [List.length_set, hrdN_len, hrdN_len]) fun j hj => ?_
  rw [List.length_set, hrdN_len] at hj
  by_cases e : k = j
  · subst e
    rw [get_set_same _ _ _ (by rw [hrdN_len]; exact hk)]
    unfold hrdN
    rw [range_get _ hj, if_pos (by omega), hrd_succ]
    unfold lateE
    rw [if_pos h]
  · rw [get_set_other _ _ e]
    unfold hrdN
    rw [range_get _ hj, range_get _ hj]
    by_cases h2 : j < k
    · rw [if_pos h2, if_pos (by omega)]
    · rw [if_neg h2, if_neg (by omega)]
theorem hrdN_start (d ring ix : List Int) (t : Nat) : hrdN d ring ix t (plc ix t) = hrdN d ring ix t 0 := by
  refine list_ext (by rw [hrdN_len, hrdN_len]) fun j hj => ?_
  rw [hrdN_len] at hj
  unfold hrdN
  rw [range_get _ hj, range_get _ hj, if_neg (by omega : ¬ j < 0)]
  by_cases h : j < plc ix t
  · rw [if_pos h, hrd_succ]
    unfold lateE
    rw [if_neg (by omega)]
    omega
  · rw [if_neg h]
theorem hrdN_next (d ring ix : List Int) (t : Nat) : hrdN d ring ix t 40 = hrdN d ring ix (t + 1) 0 := by
  refine list_ext (by rw [hrdN_len, hrdN_len]) fun j hj => ?_
  rw [hrdN_len] at hj
  unfold hrdN
  rw [range_get _ hj, range_get _ hj, if_pos hj, if_neg (by omega)]
theorem hrdN_zero (d ring ix : List Int) : hrdN d ring ix 0 0 = List.replicate 40 0 := by
  refine list_ext (by rw [hrdN_len]; simp) fun j hj => ?_
  rw [hrdN_len] at hj
  unfold hrdN
  rw [range_get _ hj, if_neg (by omega), repl_get]
  rfl
theorem hrdN_get (d ring ix : List Int) (t : Nat) {j : Nat} (hj : j < 40) : (hrdN d ring ix t 0).getD j 0 = hrd d ring ix t j := by
  unfold hrdN; rw [range_get _ hj, if_neg (by omega)]

def ScAns (d ring ix : List Int) (w : World) (e : Ending) (w' : World) : Prop := e = .returned (.tuple #[.int .i64 (scCv d ring ix), .int .i64 (scEv d ring ix), .int .i64 (scErr d ring ix)]) ∧ Below w.heap.size w w'
theorem ScAns.bad {d ring ix : List Int} {w w' : World} {er : Int} (he : scErr d ring ix = er) (h0 : er ≠ 0) (hB : Below w.heap.size w w') : ScAns d ring ix w (.returned (.tuple #[.int .i64 0, .int .i64 0, .int .i64 er])) w' :=
  ⟨by unfold scCv scEv; rw [he, if_neg h0, if_neg h0], hB⟩
theorem ScAns.good {d ring ix : List Int} {w w' : World} (he : scErr d ring ix = 0) (hB : Below w.heap.size w w') : ScAns d ring ix w (.returned (.tuple #[.int .i64 (scC d ix 4), .int .i64 (scE d ring ix), .int .i64 0])) w' :=
  ⟨by unfold scCv scEv; rw [he, if_pos rfl, if_pos rfl], hB⟩

set_option maxHeartbeats 4000000 in
theorem pulsesScore_any (A A2 : Option Addr) (c c2 n1 n2 : Nat) (d ring ix : List Int) (w : World) (hd : Rs w w.heap.size A d) (hr : Rs w w.heap.size A2 ring) (l1 : d.length = n1) (l2 : ring.length = n2) (dw : W64 d) (rw_ : W64 ring) (hx : ix.length = 4) :
    Calls Try.prog 12 #[.slice A n1 c, .slice A2 n2 c2, .agg (agi ix)] w (ScAns d ring ix w) := by
  have BA := hid ((Below.refl w.heap.size w).alloc (Nat.le_refl _) (.cells (agi ix) 29))
  have FB := hid (fun (er : Int) (he : scErr d ring ix = er) (h0 : er ≠ 0) w' (hB : Below w.heap.size w w') => ScAns.bad he h0 hB)
  by_cases hl : n1 = 40
  rotate_left
  · have HE := hid (show scErr d ring ix = 1 by unfold scErr; rw [if_neg (by omega)])
    have d0 : ((n1 : Int) != 40) = true := by simp; omega
    have d1 : ¬ (n1 : Int) = 40 := by omega
    clear hl l1 l2 hd hr
    go_enter Try.func12, Try.ntmps12
    go_wp2
    go_ret3
    exact FB.out _ HE.out (by decide) _ BA.out
  subst hl
  by_cases hl2 : n2 = 40
  rotate_left
  · have HE := hid (show scErr d ring ix = 1 by unfold scErr; rw [if_neg (by omega)])
    have d0 : ((n2 : Int) != 40) = true := by simp; omega
    have d1 : ¬ (n2 : Int) = 40 := by omega
    clear hl2 l1 l2 hd hr
    go_enter Try.func12, Try.ntmps12
    go_wp2
    go_ret3
    exact FB.out _ HE.out (by decide) _ BA.out
  subst hl2
  have HE := hid (show scErr d ring ix = if okIx ix then 0 else 2 by unfold scErr; rw [if_pos ⟨l1, l2⟩])
  have HIX := hid (fun (k : Nat) (hk : k < 4) (w : World) => run_index_agi Try.underlying29 ix hx k hk w)
  have I0 := hid (IB.new w 29 ix)
  have HD := hid ((hd.below BA.out).more BA.out.size)
  have HR := hid ((hr.below BA.out).more BA.out.size)
  have DL := hid l1
  have RL := hid l2
  have X4 := hid hx
  have DW := hid dw
  have RW := hid rw_
  obtain ⟨V, hV⟩ : ∃ V, V = w.alloc (.cells (agi ix) 29) := ⟨_, rfl⟩
  rw [← hV] at I0 HD HR BA
  have HV := hid hV
  clear hV hx hd hr l1 l2 dw rw_
  go_enter Try.func12, Try.ntmps12
  go_wp2_with (first | rw [← HV.out] | (refine wpList_loadI rfl 29 (.tmp 5) rfl _ 29 ix 4 _ rfl I0.out Try.underlying29 rfl size4i X4.out ?_))
  go_loop [22] (fun iv => ∃ i : Nat, i ≤ 4 ∧ iv = .int .i64 i ∧ Hid (allTo (fun p => decide (0 ≤ p ∧ p ≤ 9)) ix i)) (fun iv => 4 - (intOf iv).toNat)
  case atStart => exact ⟨0, by omega, rfl, hid allTo.zero⟩
  case round =>
    obtain ⟨i, hi, rfl, HY⟩ := hrel
    by_cases hlt : i < 4
    · have hI := HIX.out i hlt
      obtain ⟨x, hx⟩ : ∃ x, x = ix.getD i 0 := ⟨_, rfl⟩
      rw [← hx] at hI
      by_cases hb : x < 0 ∨ 9 < x
      · have HE2 := hid (show scErr d ring ix = 2 by rw [HE.out, show okIx ix = false from all_no (i := i) (by rw [X4.out]; exact hlt) (by rw [← hx]; simp; omega)]; rfl)
        clear hx
        rcases hb with hb | hb
        · have e1 : decide (x < 0) = true := by simpa using hb
          go_wp2
          go_ret3
          exact FB.out _ HE2.out (by decide) _ BA.out
        · have e1 : decide (x < 0) = false := by simp; omega
          have e2 : decide (10 ≤ x) = true := by simp; omega
          have e3 : decide (9 < x) = true := by simp; omega
          go_wp2
          go_ret3
          exact FB.out _ HE2.out (by decide) _ BA.out
      · have HN := hid (HY.out.succ (by rw [← hx]; simp; omega))
        have e1 : decide (x < 0) = false := by simp; omega
        have e2 : decide (10 ≤ x) = false := by simp; omega
        have e3 : decide (9 < x) = false := by simp; omega
        clear hb hx
        go_wp2
        go_round
        case rel => exact ⟨i + 1, by omega, by go_num, HN⟩
        case measure => simp [intOf] <;> omega
    · obtain rfl : i = 4 := by omega
      have OK := hid (show okIx ix = true from HY.out.all (by rw [X4.out]; exact Nat.le_refl _))
      have HE2 := hid (show scErr d ring ix = 0 by rw [HE.out, OK.out]; rfl)
      clear HY HE
      have HG := hid (fun w' (hB : Below w.heap.size w w') => ScAns.good (w := w) (w' := w') HE2.out hB)
      clear HE2 FB
      have KE := hid (show Calls Try.prog 39 #[.slice A2 40 c2] V.drew (fun e w' => ∃ L, e = .returned (.pointer (some ⟨V.heap.size, 0, none⟩)) ∧ IB w' V.heap.size 100 L ∧ Tbl L ring 40 0 ∧ Below V.heap.size V w') from (energies_any A2 c2 ring V.drew (show Rs V.drew V.drew.heap.size A2 ring from HR.out) RL.out RW.out).mono fun e w' ⟨L, h1, h2, h3, h4⟩ => ⟨L, h1, h2, h3, (Below.refl V.heap.size V).drew.trans h4⟩)
      have KS := hid (fun W g L (h : Rs W W.heap.size A d) (hL : IB W g 100 L) (hT : Tbl L ring 40 0) => score_any A c g d ring ix L W h DL.out DW.out hL hT ⟨X4.out, OK.out⟩)
      have HC := hid (show scC d ix 4 = scC d ix 4 from rfl)
      obtain ⟨cv, hcv⟩ : ∃ cv, cv = scC d ix 4 := ⟨_, rfl⟩
      obtain ⟨ev, hev⟩ : ∃ ev, ev = scE d ring ix := ⟨_, rfl⟩
      rw [← hcv, ← hev] at KS HG
      obtain ⟨dr, hdr⟩ : ∃ f : World → Ending → World → Prop, f = fun W => ScAns d ring ix W := ⟨_, rfl⟩
      have HGd := hid (fun w' (hB : Below w.heap.size w w') => show dr w (.returned (.tuple #[.int .i64 cv, .int .i64 ev, .int .i64 0])) w' from by rw [hdr]; exact HG.out w' hB)
      clear HC hcv hev HG HR RL DL DW RW OK HIX hlt
      have X4' := X4.out
      obtain ⟨x0, x1, x2, x3, rfl⟩ := list4 X4'
      have I0' := I0.out
      have k0 : World.cell? V ⟨w.heap.size, 0, none⟩ = some (.int .i64 x0) := IB.cell I0' 0 (by first | decide | simp); have k1 : World.cell? V ⟨w.heap.size, 1, none⟩ = some (.int .i64 x1) := IB.cell I0' 1 (by first | decide | simp); have k2 : World.cell? V ⟨w.heap.size, 2, none⟩ = some (.int .i64 x2) := IB.cell I0' 2 (by first | decide | simp); have k3 : World.cell? V ⟨w.heap.size, 3, none⟩ = some (.int .i64 x3) := IB.cell I0' 3 (by first | decide | simp)
      clear I0' X4' X4
      have KS := hid (fun W g L (h : Rs W W.heap.size A d) (hL : IB W g 100 L) (hT : Tbl L ring 40 0) => show Calls Try.prog 38 #[.slice A 40 c, .pointer (some ⟨g, 0, none⟩), .agg #[.int .i64 x0, .int .i64 x1, .int .i64 x2, .int .i64 x3]] W (fun e w' => e = .returned (.tuple #[.int .i64 cv, .int .i64 ev]) ∧ Below W.heap.size W w') from KS.out W g L h hL hT)
      go_wp2
      go_region_held3 (fun w' => w'.cell? ⟨w.heap.size, 0, none⟩ = some (.int .i64 x0) ∧ w'.cell? ⟨w.heap.size, 1, none⟩ = some (.int .i64 x1) ∧ w'.cell? ⟨w.heap.size, 2, none⟩ = some (.int .i64 x2) ∧ w'.cell? ⟨w.heap.size, 3, none⟩ = some (.int .i64 x3)) (go_keep) (first
        | (go_at_call 39; (with_reducible refine KE.out.mono ?_); rintro e w2 ⟨L, rfl, hI, hT, hB⟩; have J2 : IB w2 w.heap.size 29 [x0, x1, x2, x3] := Blk.below' I0.out hB; have D2 := hid ((HD.out.below hB).more hB.size); have B2 := hid (BA.out.trans (hB.mono BA.out.size)); have T2 := hid hT; have L2 := hid hI; have l0 : World.cell? w2 ⟨w.heap.size, 0, none⟩ = some (.int .i64 x0) := IB.cell J2 0 (by first | decide | simp); have l1 : World.cell? w2 ⟨w.heap.size, 1, none⟩ = some (.int .i64 x1) := IB.cell J2 1 (by first | decide | simp); have l2 : World.cell? w2 ⟨w.heap.size, 2, none⟩ = some (.int .i64 x2) := IB.cell J2 2 (by first | decide | simp); have l3 : World.cell? w2 ⟨w.heap.size, 3, none⟩ = some (.int .i64 x3) := IB.cell J2 3 (by first | decide | simp); have J2 := hid J2; clear hI hT hB)
        | (go_at_call 38; (with_reducible refine (KS.out w2 V.heap.size L D2.out L2.out T2.out).mono ?_); rintro e w3 ⟨rfl, hB⟩; have J3 : IB w3 w.heap.size 29 [x0, x1, x2, x3] := Blk.below' J2.out hB; have B3 := hid (B2.out.trans (hB.mono B2.out.size)); have m0 : World.cell? w3 ⟨w.heap.size, 0, none⟩ = some (.int .i64 x0) := IB.cell J3 0 (by first | decide | simp); have m1 : World.cell? w3 ⟨w.heap.size, 1, none⟩ = some (.int .i64 x1) := IB.cell J3 1 (by first | decide | simp); have m2 : World.cell? w3 ⟨w.heap.size, 2, none⟩ = some (.int .i64 x2) := IB.cell J3 2 (by first | decide | simp); have m3 : World.cell? w3 ⟨w.heap.size, 3, none⟩ = some (.int .i64 x3) := IB.cell J3 3 (by first | decide | simp); have J3 := hid J3; clear hB))
      rename_i hHeldZ
      clear hHeldZ
      clear k0 k1 k2 k3 l0 l1 l2 l3 m0 m1 m2 m3
      simp only [Exit.then]
      go_wp2
      go_ret3
      have := HGd.out _ B3.out
      rw [hdr] at this
      exact this

set_option maxHeartbeats 4000000 in
theorem refScore_any (A A2 : Option Addr) (c c2 n1 n2 : Nat) (d ring ix : List Int) (w : World) (hd : Rs w w.heap.size A d) (hr : Rs w w.heap.size A2 ring) (l1 : d.length = n1) (l2 : ring.length = n2) (dw : W64 d) (rw_ : W64 ring) (hx : ix.length = 4) :
    Calls Try.prog 13 #[.slice A n1 c, .slice A2 n2 c2, .agg (agi ix)] w (ScAns d ring ix w) := by
  have BA := hid ((Below.refl w.heap.size w).alloc (Nat.le_refl _) (.cells (agi ix) 29))
  have FB := hid (fun (er : Int) (he : scErr d ring ix = er) (h0 : er ≠ 0) w' (hB : Below w.heap.size w w') => ScAns.bad he h0 hB)
  by_cases hl : n1 = 40
  rotate_left
  · have HE := hid (show scErr d ring ix = 1 by unfold scErr; rw [if_neg (by omega)])
    have d0 : ((n1 : Int) != 40) = true := by simp; omega
    have d1 : ¬ (n1 : Int) = 40 := by omega
    clear hl l1 l2 hd hr
    go_enter Try.func13, Try.ntmps13
    go_wp2
    go_ret3
    exact FB.out _ HE.out (by decide) _ BA.out
  subst hl
  by_cases hl2 : n2 = 40
  rotate_left
  · have HE := hid (show scErr d ring ix = 1 by unfold scErr; rw [if_neg (by omega)])
    have d0 : ((n2 : Int) != 40) = true := by simp; omega
    have d1 : ¬ (n2 : Int) = 40 := by omega
    clear hl2 l1 l2 hd hr
    go_enter Try.func13, Try.ntmps13
    go_wp2
    go_ret3
    exact FB.out _ HE.out (by decide) _ BA.out
  subst hl2
  have HE := hid (show scErr d ring ix = if okIx ix then 0 else 2 by unfold scErr; rw [if_pos ⟨l1, l2⟩])
  have HIX := hid (fun (k : Nat) (hk : k < 4) (w : World) => run_index_agi Try.underlying29 ix hx k hk w)
  have I0 := hid (IB.new w 29 ix)
  have HD := hid ((hd.below BA.out).more BA.out.size)
  have HR := hid ((hr.below BA.out).more BA.out.size)
  have DL := hid l1
  have RL := hid l2
  have X4 := hid hx
  have DW := hid dw
  have RW := hid rw_
  obtain ⟨V, hV⟩ : ∃ V, V = w.alloc (.cells (agi ix) 29) := ⟨_, rfl⟩
  rw [← hV] at I0 HD HR BA
  have HV := hid hV
  clear hV hx hd hr l1 l2 dw rw_
  go_enter Try.func13, Try.ntmps13
  go_wp2_with (first | rw [← HV.out] | (refine wpList_loadI rfl 29 (.tmp 5) rfl _ 29 ix 4 _ rfl I0.out Try.underlying29 rfl size4i X4.out ?_))
  go_loop [30] (fun iv => ∃ i : Nat, i ≤ 4 ∧ iv = .int .i64 i ∧ Hid (allTo (fun p => decide (0 ≤ p ∧ p ≤ 9)) ix i)) (fun iv => 4 - (intOf iv).toNat)
  case atStart => exact ⟨0, by omega, rfl, hid allTo.zero⟩
  case round =>
    obtain ⟨i, hi, rfl, HY⟩ := hrel
    by_cases hlt : i < 4
    · have hI := HIX.out i hlt
      obtain ⟨x, hx⟩ : ∃ x, x = ix.getD i 0 := ⟨_, rfl⟩
      rw [← hx] at hI
      by_cases hb : x < 0 ∨ 9 < x
      · have HE2 := hid (show scErr d ring ix = 2 by rw [HE.out, show okIx ix = false from all_no (i := i) (by rw [X4.out]; exact hlt) (by rw [← hx]; simp; omega)]; rfl)
        clear hx
        rcases hb with hb | hb
        · have e1 : decide (x < 0) = true := by simpa using hb
          go_wp2
          go_ret3
          exact FB.out _ HE2.out (by decide) _ BA.out
        · have e1 : decide (x < 0) = false := by simp; omega
          have e2 : decide (10 ≤ x) = true := by simp; omega
          have e3 : decide (9 < x) = true := by simp; omega
          go_wp2
          go_ret3
          exact FB.out _ HE2.out (by decide) _ BA.out
      · have HN := hid (HY.out.succ (by rw [← hx]; simp; omega))
        have e1 : decide (x < 0) = false := by simp; omega
        have e2 : decide (10 ≤ x) = false := by simp; omega
        have e3 : decide (9 < x) = false := by simp; omega
        clear hb hx
        go_wp2
        go_round
        case rel => exact ⟨i + 1, by omega, by go_num, HN⟩
        case measure => simp [intOf] <;> omega
    · obtain rfl : i = 4 := by omega
      have OK := hid (show okIx ix = true from HY.out.all (by rw [X4.out]; exact Nat.le_refl _))
      have HE2 := hid (show scErr d ring ix = 0 by rw [HE.out, OK.out]; rfl)
      clear HY HE
      have HG := hid (fun w' (hB : Below w.heap.size w w') => ScAns.good (w := w) (w' := w') HE2.out hB)
      clear HE2 FB hlt
      have sV := BA.out.size
      go_wp2_with (first
        | (at_make; refine wpList_makeI rfl _ _ rfl .i64 .i64 40 rfl rfl V.heap.size (by omega) (Nat.le_refl _) ?_; intro w1 hO hG; have O1 := hid (show Own w1 V.heap.size (some ⟨V.heap.size, 0, none⟩) 40 (hrdN d ring ix 0 0) by rw [hrdN_zero]; exact hO); have B1 := hid ((Below.refl V.heap.size V).grown hG (Nat.le_refl _) (by simp)); clear hO hG)
        | (refine wpList_loadI rfl 29 (.tmp 5) rfl _ 29 ix 4 _ rfl (Blk.below' I0.out B1.out) Try.underlying29 rfl size4i X4.out ?_))
      go_loopw [11, 42] (fun cv iv wr => ∃ t : Nat, t ≤ 4 ∧ iv = .int .i64 t ∧ cv = .int .i64 (scC d ix t) ∧ Hid (Own wr V.heap.size (some ⟨V.heap.size, 0, none⟩) 40 (hrdN d ring ix t 0)) ∧ Hid (Below V.heap.size V wr)) (fun _ iv _ => 4 - (intOf iv).toNat)
      case atStart => exact ⟨0, by omega, rfl, rfl, O1, B1⟩
      case round =>
        clear O1 B1
        obtain ⟨t, ht, rfl, rfl, HO, HB⟩ := hrel
        by_cases hlt : t < 4
        · have hI := HIX.out t hlt
          have po := okIx_at OK.out t
          obtain ⟨q, hq⟩ := Int.eq_ofNat_of_zero_le po.1
          have pa := plc_lt OK.out hlt
          have hpl : (t : Int) + 4 * (q : Nat) = (plc ix t : Nat) := by unfold plc; rw [hq]; push_cast; rfl
          have SC := hid (show scC d ix (t + 1) = IntKind.i64.wrap (scC d ix t + IntKind.i64.wrap (sg d ix t * d.getD (plc ix t) 0)) from rfl)
          have HS0 := hid (hrdN_start d ring ix t)
          have HNX := hid (hrdN_next d ring ix t)
          have HSet := hid (fun k hk h => hrdN_set d ring ix (t := t) (k := k) hk h)
          have HAt := hid (fun k hk => hrdN_at d ring ix t (k := k) hk)
          have HRg := hid (fun k => hrd_range d ring ix t k (by omega))
          rw [hq] at hI po
          have SG := hid (show sg d ix t = sgp (d.getD (plc ix t) 0) from rfl)
          have D1 := hid ((HD.out.below HB.out).more HB.out.size)
          have O1 := hid (show Own wr V.heap.size (some ⟨V.heap.size, 0, none⟩) 40 (hrdN d ring ix t (plc ix t)) by rw [HS0.out]; exact HO.out)
          obtain ⟨a, ha⟩ : ∃ a, a = plc ix t := ⟨_, rfl⟩
          rw [← ha] at hpl pa SC SG O1 HSet
          obtain ⟨ad, hAd, hadb, c0⟩ := D1.out.at_ (k := a) (by rw [DL.out]; exact pa)
          obtain ⟨x, hx⟩ : ∃ x, x = d.getD a 0 := ⟨_, rfl⟩
          rw [← hx] at c0 SC SG
          obtain ⟨s, hs⟩ : ∃ s, s = sgp x := ⟨_, rfl⟩
          rw [← hs] at SG
          rw [SG.out] at SC HSet
          have HSG := hid hs
          have HX := hid hx
          have q9 : (q : Int) ≤ 9 := po.2
          have a40 : (a : Int) < 40 := by omega
          have a0 : (0 : Int) ≤ a := by omega
          have HQ := hid hq
          have HA := hid ha
          have hdec : decide ((t : Int) < 4) = true := by simp; omega
          generalize scC d ix t = cc at *
          clear po hq ha hx HO
          subst hAd
          by_cases hsg : x < 0
          · have hs1 : s = -1 := by rw [hs]; unfold sgp; rw [if_pos hsg]
            have hsgn : decide (x < 0) = true := by simpa using hsg
            subst hs1
            clear hs HSG
            have SC2 := SC.out
            rw [Int.neg_one_mul] at SC2
            have SC2 := hid SC2
            clear SC
            go_wp2
            clear c0 hsgn
            go_loopw [17] (fun iv wr => ∃ k : Nat, a ≤ k ∧ k ≤ 40 ∧ iv = .int .i64 k ∧ Hid (Own wr V.heap.size (some ⟨V.heap.size, 0, none⟩) 40 (hrdN d ring ix t k)) ∧ Hid (Below V.heap.size V wr)) (fun iv _ => 40 - (intOf iv).toNat)
            case atStart => exact ⟨a, Nat.le_refl _, by omega, rfl, O1, HB⟩
            case round =>
              clear O1 HB D1
              obtain ⟨k, hka, hk, rfl, HO, HB⟩ := hrel
              by_cases hlk : k < 40
              · obtain ⟨ae, hAe, haeb, c1⟩ := (HR.out.below HB.out).at_ (k := k - a) (by rw [RL.out]; omega)
                have co := HO.out.cell k (by rw [hrdN_len]; exact hlk)
                rw [HAt.out k hlk] at co
                have fo := HO.out.frozen k
                have HSk := HSet.out k hlk hka
                rw [Int.neg_one_mul] at HSk
                have HSk := hid HSk
                have hrg := HRg.out k
                obtain ⟨m, hm⟩ : ∃ m, m = k - a := ⟨_, rfl⟩
                rw [← hm] at c1 HSk
                obtain ⟨y, hy⟩ : ∃ y, y = ring.getD m 0 := ⟨_, rfl⟩
                rw [← hy] at c1 HSk
                have KS := hid (fun W => S16_any y W)
                have yr := s16_range y
                obtain ⟨z, hz⟩ : ∃ z, z = s16 y := ⟨_, rfl⟩
                rw [← hz] at KS yr HSk
                obtain ⟨v, hv⟩ : ∃ v, v = hrd d ring ix t k := ⟨_, rfl⟩
                rw [← hv] at co hrg HSk
                have hw0 : IntKind.i64.wrap ((k : Int) - (a : Nat)) = (m : Nat) := by rw [IntKind.wrap_i64]; omega
                have hw1 : IntKind.i64.wrap (-z) = (-z) := by rw [IntKind.wrap_i64]; omega
                have hw2 : IntKind.i64.wrap (v + (-z)) = v + (-z) := by rw [IntKind.wrap_i64]; omega
                have i1 : (m : Int) < 40 := by omega
                have i2 : (0 : Int) ≤ m := by omega
                have i3 : (k : Int) < 40 := by omega
                have i4 : (0 : Int) ≤ k := by omega
                have NO := hid (show Own (wr.setCell ⟨V.heap.size, k, none⟩ (.int .i64 (v + (-z)))) V.heap.size (some ⟨V.heap.size, 0, none⟩) 40 (hrdN d ring ix t (k + 1)) from by rw [← HSk.out]; exact HO.out.set_ k (by rw [hrdN_len]; exact hlk) _)
                have NB := hid (HB.out.setCell (p := ⟨V.heap.size, k, none⟩) (Nat.le_refl _) (.int .i64 (v + (-z))))
                have HM := hid hm
                have HY := hid hy
                have HZ := hid hz
                have HVV := hid hv
                have hdk : decide ((k : Int) < 40) = true := by simp; omega
                clear hm hy hz hv yr hrg HO HB
                subst hAe
                go_wp2
                go_region_with ((go_at_call 40; (with_reducible refine (KS.out _).mono ?_); rintro e' w' ⟨rfl, rfl⟩))
                all_goals
                  clear hw0 hw1 hw2
                  go_wp2
                  go_roundw
                  case rel => exact ⟨k + 1, by omega, by omega, by go_num, hid NO.out.drew, hid NB.out.drew⟩
                  case measure => simp [intOf] <;> omega
              · obtain rfl : k = 40 := by omega
                have NO := hid (show Own wr V.heap.size (some ⟨V.heap.size, 0, none⟩) 40 (hrdN d ring ix (t + 1) 0) by rw [← HNX.out]; exact HO.out)
                go_wp2
                go_roundw
                case rel => exact ⟨t + 1, by omega, by go_num, by rw [SC2.out]; first | rfl | (simp only [wrap64, IntKind.wrap_i64]), NO, HB⟩
                case measure => simp [intOf] <;> omega
          · have hs1 : s = 1 := by rw [hs]; unfold sgp; rw [if_neg hsg]
            have hsgn : decide (x < 0) = false := by simpa using hsg
            subst hs1
            clear hs HSG
            have SC2 := SC.out
            rw [Int.one_mul] at SC2
            have SC2 := hid SC2
            clear SC
            go_wp2
            clear c0 hsgn
            go_loopw [17] (fun iv wr => ∃ k : Nat, a ≤ k ∧ k ≤ 40 ∧ iv = .int .i64 k ∧ Hid (Own wr V.heap.size (some ⟨V.heap.size, 0, none⟩) 40 (hrdN d ring ix t k)) ∧ Hid (Below V.heap.size V wr)) (fun iv _ => 40 - (intOf iv).toNat)
            case atStart => exact ⟨a, Nat.le_refl _, by omega, rfl, O1, HB⟩
            case round =>
              clear O1 HB D1
              obtain ⟨k, hka, hk, rfl, HO, HB⟩ := hrel
              by_cases hlk : k < 40
              · obtain ⟨ae, hAe, haeb, c1⟩ := (HR.out.below HB.out).at_ (k := k - a) (by rw [RL.out]; omega)
                have co := HO.out.cell k (by rw [hrdN_len]; exact hlk)
                rw [HAt.out k hlk] at co
                have fo := HO.out.frozen k
                have HSk := HSet.out k hlk hka
                rw [Int.one_mul] at HSk
                have HSk := hid HSk
                have hrg := HRg.out k
                obtain ⟨m, hm⟩ : ∃ m, m = k - a := ⟨_, rfl⟩
                rw [← hm] at c1 HSk
                obtain ⟨y, hy⟩ : ∃ y, y = ring.getD m 0 := ⟨_, rfl⟩
                rw [← hy] at c1 HSk
                have KS := hid (fun W => S16_any y W)
                have yr := s16_range y
                obtain ⟨z, hz⟩ : ∃ z, z = s16 y := ⟨_, rfl⟩
                rw [← hz] at KS yr HSk
                obtain ⟨v, hv⟩ : ∃ v, v = hrd d ring ix t k := ⟨_, rfl⟩
                rw [← hv] at co hrg HSk
                have hw0 : IntKind.i64.wrap ((k : Int) - (a : Nat)) = (m : Nat) := by rw [IntKind.wrap_i64]; omega
                have hw1 : IntKind.i64.wrap (z) = (z) := by rw [IntKind.wrap_i64]; omega
                have hw2 : IntKind.i64.wrap (v + (z)) = v + (z) := by rw [IntKind.wrap_i64]; omega
                have i1 : (m : Int) < 40 := by omega
                have i2 : (0 : Int) ≤ m := by omega
                have i3 : (k : Int) < 40 := by omega
                have i4 : (0 : Int) ≤ k := by omega
                have NO := hid (show Own (wr.setCell ⟨V.heap.size, k, none⟩ (.int .i64 (v + (z)))) V.heap.size (some ⟨V.heap.size, 0, none⟩) 40 (hrdN d ring ix t (k + 1)) from by rw [← HSk.out]; exact HO.out.set_ k (by rw [hrdN_len]; exact hlk) _)
                have NB := hid (HB.out.setCell (p := ⟨V.heap.size, k, none⟩) (Nat.le_refl _) (.int .i64 (v + (z))))
                have HM := hid hm
                have HY := hid hy
                have HZ := hid hz
                have HVV := hid hv
                have hdk : decide ((k : Int) < 40) = true := by simp; omega
                clear hm hy hz hv yr hrg HO HB
                subst hAe
                go_wp2
                go_region_with ((go_at_call 40; (with_reducible refine (KS.out _).mono ?_); rintro e' w' ⟨rfl, rfl⟩))
                all_goals
                  clear hw0 hw1 hw2
                  go_wp2
                  go_roundw
                  case rel => exact ⟨k + 1, by omega, by omega, by go_num, hid NO.out.drew, hid NB.out.drew⟩
                  case measure => simp [intOf] <;> omega
              · obtain rfl : k = 40 := by omega
                have NO := hid (show Own wr V.heap.size (some ⟨V.heap.size, 0, none⟩) 40 (hrdN d ring ix (t + 1) 0) by rw [← HNX.out]; exact HO.out)
                go_wp2
                go_roundw
                case rel => exact ⟨t + 1, by omega, by go_num, by rw [SC2.out]; first | rfl | (simp only [wrap64, IntKind.wrap_i64]), NO, HB⟩
                case measure => simp [intOf] <;> omega
        · obtain rfl : t = 4 := by omega
          have NE := hid (show ∀ j, j < 40 → (hrdN d ring ix 4 0).getD j 0 = hrd d ring ix 4 j from fun j hj => hrdN_get d ring ix 4 hj)
          have SE := hid (heard_energy d ring ix)
          have SQ := hid (fun n hn => hsq_part d ring ix n hn)
          have SH := hid (fun n => hrd_range d ring ix 4 n (Nat.le_refl _))
          have LH := hid (hrdN_len d ring ix 4 0)
          go_wp2
          have cells := hid (fun n (hn : n < 40) => HO.out.cell n (by rw [LH.out]; exact hn))
          go_loop [18, 86] (fun ev iv => ∃ (n : Nat) (e : Int), n ≤ 40 ∧ iv = .int .i64 n ∧ ev = .int .i64 e ∧ Hid (e = sumN (hsq d ring ix) n)) (fun _ iv => 40 - (intOf iv).toNat)
          case atStart => exact ⟨0, 0, by omega, rfl, rfl, hid rfl⟩
          case round =>
            obtain ⟨n, e, hn, rfl, rfl, HE⟩ := hrel
            by_cases hln : n < 40
            · have c0 := cells.out n hln
              rw [NE.out n hln] at c0
              have SS := hid (show sumN (hsq d ring ix) (n + 1) = e + hrd d ring ix 4 n * hrd d ring ix 4 n by rw [HE.out]; rfl)
              have sb := SQ.out n hn
              rw [← HE.out] at sb
              have hb := SH.out n
              have hq := hsq_range d ring ix n
              unfold hsq at hq
              generalize hrd d ring ix 4 n = x at *
              have e1 : 0 ≤ e := sb.1
              have e2 : e ≤ 687194767360 := sb.2
              have q1 : 0 ≤ x * x := hq.1
              have q2 : x * x ≤ 17179869184 := hq.2
              clear sb hb hq
              go_wp2
              go_round
              case rel => exact ⟨n + 1, _, by omega, by go_num, rfl, hid SS.out.symm⟩
              case measure => simp [intOf] <;> omega
            · obtain rfl : n = 40 := by omega
              have FIN := hid (HG.out _ (BA.out.trans (HB.out.mono BA.out.size)))
              rw [← SE.out, ← HE.out] at FIN
              go_wp2
              go_ret3
              exact FIN.out
end Go.Proofs.Ytcfmipobgljbeaa
