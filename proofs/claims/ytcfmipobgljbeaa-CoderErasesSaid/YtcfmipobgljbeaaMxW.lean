/- Package conceal's Mix. -/
import Derived.Test.YtcfmipobgljbeaaPastR
import Derived.Test.YtcfmipobgljbeaaKeepW
namespace Go.Proofs.Ytcfmipobgljbeaa
set_option linter.unusedVariables false
set_option linter.unusedSimpArgs false
set_option maxRecDepth 100000
open Go.RowKit

/-! Plain facts. -/
def mxV (p g b : Int) : Int := s16 ((s16 p * g + 8192) / 16384 + s16 b)
def mxB (lag g : Int) : Bool := pastB lag && decide (0 ≤ g ∧ g ≤ 32767)
def mxE (h x : List Int) (lag g : Int) (i : Nat) : Int := mxV ((pastL h lag).getD i 0) g (x.getD i 0)
def mxL (h x : List Int) (lag g : Int) (n : Nat) : List Int := if n = 40 ∧ mxB lag g = true then (List.range 40).map (mxE h x lag g) else []
def mxR (lag g : Int) (n : Nat) : Int := if n = 40 then errOf (mxB lag g) else 1
theorem mx_size {h x : List Int} {lag g : Int} {n : Nat} (hn : n ≠ 40) : mxL h x lag g n = [] ∧ mxR lag g n = 1 := ⟨if_neg (fun h => hn h.1), if_neg hn⟩
theorem mx_bad {h x : List Int} {lag g : Int} (hb : mxB lag g = false) : mxL h x lag g 40 = [] ∧ mxR lag g 40 = 2 := ⟨if_neg (fun h => by rw [hb] at h; exact absurd h.2 (by simp)), by unfold mxR; rw [if_pos rfl, hb]; rfl⟩
theorem mx_good {h x : List Int} {lag g : Int} (hb : mxB lag g = true) : mxL h x lag g 40 = (List.range 40).map (mxE h x lag g) ∧ mxR lag g 40 = 0 := ⟨if_pos ⟨rfl, hb⟩, by unfold mxR; rw [if_pos rfl, hb]; rfl⟩
theorem mxL_in (h x : List Int) (lag g : Int) (n : Nat) : all16 (mxL h x lag g n) = true := by
  unfold mxL
  split
  · unfold all16
    rw [List.all_eq_true]
    intro y hy
    obtain ⟨i, _, rfl⟩ := List.mem_map.1 hy
    have := s16_range ((s16 ((pastL h lag).getD i 0) * g + 8192) / 16384 + s16 (x.getD i 0))
    exact ok16_yes this.1 this.2
  · rfl
theorem mx_mul {a g : Int} (h1 : -32768 ≤ a) (h2 : a ≤ 32767) (h3 : 0 ≤ g) (h4 : g ≤ 32767) : -1073741824 ≤ a * g ∧ a * g ≤ 1073741824 := by
  have := mul_bound (x := a) (X := 32768) (y := g) (Y := 32768) (by omega) (by omega) ⟨by omega, by omega⟩ ⟨by omega, by omega⟩
  omega

set_option maxHeartbeats 4000000 in
theorem mix_any (h x : List Int) (lag g : Int) (A : Option Addr) (c n : Nat) (w : World) (hh : h.length = 80) (hr : Rs w w.heap.size A x) (hn : x.length = n) (hl : n ≤ 17592186044416) :
    Calls Try.prog 89 #[.agg (agi h), .int .i64 lag, .int .i64 g, .slice A n c] w (NewSE w (mxL h x lag g n) (mxR lag g n)) := by
  have A0 := hid (IB.new w 34 h)
  have B0 := hid ((Below.refl w.heap.size w).alloc (Nat.le_refl _) (.cells (agi h) 34))
  have HH := hid hh
  have HR := hid hr
  have HN := hid hn
  by_cases h40 : n = 40
  · subst h40
    have KP := hid (fun W => past_any h lag W hh)
    clear hr hn hh
    cases hb : pastB lag with
    | false =>
      obtain ⟨e1, e2⟩ := mx_bad (h := h) (x := x) (lag := lag) (g := g) (by unfold mxB; rw [hb]; rfl)
      rw [e1, e2]
      have hp : pastL h lag = [] := by unfold pastL; rw [hb]; rfl
      rw [hp, hb] at KP
      clear e1 e2 hp hb
      go_enter Try.func89, Try.ntmps89
      go_wp2_with (refine wpList_loadI rfl 34 (.tmp 4) rfl _ 34 h 80 _ rfl A0.out Try.underlying34 rfl size80k HH.out ?_)
      refine (KP.out _).mono ?_
      rintro e w1 ⟨A1, c1, rfl, hO, hB⟩
      have FIN := hid (NewSE.none_ (er := 2) (B0.out.trans (hB.mono B0.out.size)))
      clear hO hB
      go_wp2
      go_ret2
      exact FIN.out
    | true =>
      have hlen := pastL_len (h := h) hb
      by_cases hg : 0 ≤ g ∧ g ≤ 32767
      · obtain ⟨g1, g2⟩ := hg
        obtain ⟨e1, e2⟩ := mx_good (h := h) (x := x) (lag := lag) (g := g) (by unfold mxB; rw [hb]; simp; omega)
        have E1 := hid e1
        rw [e2]
        rw [hb] at KP
        have HPL := hid hlen
        have HE := hid (fun i => show mxE h x lag g i = mxV ((pastL h lag).getD i 0) g (x.getD i 0) from rfl)
        generalize pastL h lag = P at *
        clear e1 e2 hb hlen
        go_enter Try.func89, Try.ntmps89
        go_wp2_with (refine wpList_loadI rfl 34 (.tmp 4) rfl _ 34 h 80 _ rfl A0.out Try.underlying34 rfl size80k HH.out ?_)
        refine (KP.out _).mono ?_
        rintro e w1 ⟨A1, c1, rfl, hO, hB⟩
        have L1 := hid (B0.out.trans (hB.mono B0.out.size))
        obtain ⟨gv, rfl, gv1, gv2⟩ := hO.head (by rw [HPL.out]; omega)
        have O1 := hid (hO.more (base' := w.heap.size) (by simp))
        have hgv : w.heap.size ≤ gv := by simp at gv1; omega
        rw [HPL.out]
        clear hO hB gv1 gv2
        go_wp2
        go_loopw [34] (fun iv wr => ∃ (k : Nat) (ys : List Int), k ≤ 40 ∧ iv = .int .i64 k ∧ Hid (ys.length = 40 ∧ (∀ j, j < k → ys.getD j 0 = mxE h x lag g j) ∧ ∀ j, k ≤ j → ys.getD j 0 = P.getD j 0) ∧ Hid (Own wr w.heap.size (some ⟨gv, 0, none⟩) c1 ys) ∧ Hid (Below w.heap.size w wr)) (fun iv _ => 40 - (intOf iv).toNat)
        case atStart => exact ⟨0, P, by omega, rfl, hid ⟨HPL.out, fun j h => by omega, fun j h => rfl⟩, O1, L1⟩
        case round =>
          clear O1 L1
          obtain ⟨k, ys, hk, rfl, HY, HO, HB⟩ := hrel
          by_cases hlt : k < 40
          · obtain ⟨ad, rfl, _, cb⟩ := (HR.out.below HB.out).at_ (k := k) (by rw [HN.out]; exact hlt)
            have cp := HO.out.cell k (by rw [HY.out.1]; exact hlt)
            rw [HY.out.2.2 k (Nat.le_refl _)] at cp
            have fp := HO.out.frozen k
            have NO := hid (fun v => HO.out.set_ k (by rw [HY.out.1]; exact hlt) v)
            have NB := hid (fun v => HB.out.setCell (p := ⟨gv, k, none⟩) hgv v)
            have NEXT := hid (fun (v : Int) (hv : v = mxE h x lag g k) => show Hid ((ys.set k v).length = 40 ∧ (∀ j, j < k + 1 → (ys.set k v).getD j 0 = mxE h x lag g j) ∧ ∀ j, k + 1 ≤ j → (ys.set k v).getD j 0 = P.getD j 0) from by
              obtain ⟨q1, q2, q3⟩ := HY.out
              refine ⟨by simpa using q1, fun j hj => ?_, fun j hj => ?_⟩
              · by_cases he : k = j
                · subst he
                  rw [get_set_same _ _ _ (by omega), hv]
                · rw [get_set_other _ _ he]
                  exact q2 j (by omega)
              · rw [get_set_other _ _ (by omega)]
                exact q3 j (by omega))
            have hk40 : (k : Int) < 40 := by omega
            have HV := HE.out k
            obtain ⟨p, hp⟩ : ∃ p, p = P.getD k 0 := ⟨_, rfl⟩
            obtain ⟨b, hb⟩ : ∃ b, b = x.getD k 0 := ⟨_, rfl⟩
            rw [← hp] at cp HV
            rw [← hb] at cb HV
            unfold mxV at HV
            have KA := hid (fun W => concealsat_any p W)
            have KB := hid (fun W => concealsat_any b W)
            have ra := s16_range p
            have rb := s16_range b
            generalize s16 p = sa at KA HV ra
            generalize s16 b = sb at KB HV rb
            have hq := mx_mul ra.1 ra.2 g1 g2
            obtain ⟨q, hqe⟩ : ∃ q, sa * g = q := ⟨_, rfl⟩
            rw [hqe] at hq HV
            have hw1 : IntKind.i64.wrap (sa * g) = q := by rw [hqe, IntKind.wrap_i64]; omega
            have hw2 : IntKind.i64.wrap (q + 8192) = q + 8192 := by rw [IntKind.wrap_i64]; omega
            obtain ⟨t, ht⟩ : ∃ t, t = (q + 8192) / 16384 + sb := ⟨_, rfl⟩
            have hw3 : IntKind.i64.wrap ((q + 8192) / 16384 + sb) = t := by rw [ht, IntKind.wrap_i64]; omega
            rw [← ht] at HV
            have KT := hid (fun W => concealsat_any t W)
            obtain ⟨y, hy⟩ : ∃ y, y = s16 t := ⟨_, rfl⟩
            rw [← hy] at KT HV
            have NX := NEXT.out y HV.symm
            have NO2 := hid (NO.out y)
            have NB2 := hid (NB.out (.int .i64 y))
            clear hp hb ra rb hq hqe ht hy HV NEXT NO NB
            go_wp2_with (first
              | (go_at_call 86; (with_reducible refine (KA.out _).mono ?_); rintro e w' ⟨rfl, rfl⟩)
              | (go_at_call 86; (with_reducible refine (KB.out _).mono ?_); rintro e w' ⟨rfl, rfl⟩)
              | (go_at_call 86; (with_reducible refine (KT.out _).mono ?_); rintro e w' ⟨rfl, rfl⟩))
            go_roundw
            case rel => exact ⟨k + 1, _, by omega, by go_num, NX, NO2, NB2⟩
            case measure => simp [intOf] <;> omega
          · obtain rfl : k = 40 := by omega
            have HF : ys = (List.range 40).map (mxE h x lag g) := list_ext (by rw [HY.out.1]; simp) (fun k hk => by rw [HY.out.1] at hk; rw [HY.out.2.1 k hk, range_get _ hk])
            have HF := hid HF
            go_wp2
            go_ret2
            rw [E1.out, ← HF.out]
            exact ⟨_, _, by rw [HY.out.1]; rfl, HO.out, HB.out⟩
      · obtain ⟨e1, e2⟩ := mx_bad (h := h) (x := x) (lag := lag) (g := g) (by unfold mxB; rw [hb]; simp; omega)
        rw [e1, e2]
        rw [hb] at KP
        have HPL := hid hlen
        generalize pastL h lag = P at *
        clear e1 e2 hb hlen
        rcases Int.lt_or_le g 0 with hg1 | hg1
        · go_enter Try.func89, Try.ntmps89
          go_wp2_with (refine wpList_loadI rfl 34 (.tmp 4) rfl _ 34 h 80 _ rfl A0.out Try.underlying34 rfl size80k HH.out ?_)
          refine (KP.out _).mono ?_
          rintro e w1 ⟨A1, c1, rfl, hO, hB⟩
          have FIN := hid (NewSE.none_ (er := 2) (B0.out.trans (hB.mono B0.out.size)))
          clear hO hB
          go_wp2
          go_ret2
          exact FIN.out
        · have hg2 : 32767 < g := by omega
          have hg3 : ¬ g < 0 := by omega
          go_enter Try.func89, Try.ntmps89
          go_wp2_with (refine wpList_loadI rfl 34 (.tmp 4) rfl _ 34 h 80 _ rfl A0.out Try.underlying34 rfl size80k HH.out ?_)
          refine (KP.out _).mono ?_
          rintro e w1 ⟨A1, c1, rfl, hO, hB⟩
          have FIN := hid (NewSE.none_ (er := 2) (B0.out.trans (hB.mono B0.out.size)))
          clear hO hB
          go_wp2
          go_ret2
          exact FIN.out
  · obtain ⟨e1, e2⟩ := mx_size (h := h) (x := x) (lag := lag) (g := g) h40
    rw [e1, e2]
    have d1 : ((n : Int) == 40) = false := by simp; omega
    have d2 : ((n : Int) != 40) = true := by simp; omega
    have FIN := hid (NewSE.none_ (er := 1) B0.out)
    clear h40 e1 e2
    go_enter Try.func89, Try.ntmps89
    go_wp2
    go_ret2
    exact FIN.out
end Go.Proofs.Ytcfmipobgljbeaa
