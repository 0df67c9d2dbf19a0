/- The reference's MixExc. -/
import Derived.Test.YtniechgbbkkncaaMxW
import Derived.Test.YtniechgbbkkncaaPushS
import Derived.Test.YtniechgbbkkncaaDownK
import Derived.Deep.RegionHeld3
namespace Go.Proofs.Ytniechgbbkkncaa
set_option linter.unusedVariables false
set_option linter.unusedSimpArgs false
set_option maxRecDepth 100000
open Go.RowKit

set_option maxHeartbeats 4000000 in
theorem refMix_any (h x : List Int) (lag g : Int) (A : Option Addr) (c n : Nat) (w : World) (hh : h.length = 80) (hr : Rs w w.heap.size A x) (hn : x.length = n) (hl : n ≤ 17592186044416) (hw : W64 h) (hwx : W64 x) :
    Calls Try.prog 29 #[.agg (agi h), .int .i64 lag, .int .i64 g, .slice A n c] w (NewSE w (mxL h x lag g n) (mxR lag g n)) := by
  have A0 := hid (IB.new w 40 h)
  have B0 := hid ((Below.refl w.heap.size w).alloc (Nat.le_refl _) (.cells (agi h) 40))
  have HH := hid hh
  have HR := hid hr
  have HN := hid hn
  by_cases h40 : n = 40
  · subst h40
    by_cases hg : (20 ≤ lag ∧ lag ≤ 79) ∧ 0 ≤ g ∧ g ≤ 32767
    · obtain ⟨⟨l1, l2⟩, g1, g2⟩ := hg
      have hb := pastB_yes l1 l2
      have KP := hid (fun W => refPast_any h lag W hh)
      have hlen := pastL_len (h := h) hb
      have hP64 : W64 (pastL h lag) := fun y hy => by
        unfold pastL at hy
        rw [if_pos hb] at hy
        obtain ⟨i, _, rfl⟩ := List.mem_map.1 hy
        exact hw.at_ _
      obtain ⟨e1, e2⟩ := mx_good (h := h) (x := x) (lag := lag) (g := g) (by unfold mxB; rw [hb]; simp; omega)
      have E1 := hid e1
      rw [e2]
      rw [hb] at KP
      have HPL := hid hlen
      have HP64 := hid hP64
      have HX64 := hid hwx
      have HE := hid (fun i => show mxE h x lag g i = mxV ((pastL h lag).getD i 0) g (x.getD i 0) from rfl)
      generalize pastL h lag = P at *
      clear e1 e2 hb hlen hP64 hwx hw hr hn hh
      go_enter Try.func29, Try.ntmps29
      go_wp2_with (refine wpList_loadI rfl 40 (.tmp 4) rfl _ 40 h 80 _ rfl A0.out Try.underlying40 rfl size80k HH.out ?_)
      refine (KP.out _).mono ?_
      rintro e w1 ⟨A1, c1, rfl, hO, hB⟩
      have L1 := hid (B0.out.trans (hB.mono B0.out.size))
      obtain ⟨gv, rfl, gv1, gv2⟩ := hO.head (by rw [HPL.out]; omega)
      have O1 := hid (hO.more (base' := w.heap.size) (by simp))
      have hgv : w.heap.size ≤ gv := by simp at gv1; omega
      have HGV2 := hid gv2
      have HL1 := hid L1.out.size
      rw [HPL.out]
      clear hO hB gv1 gv2 l1 l2
      go_wp2
      go_loopw [12, 39] (fun ov iv wr => ∃ (k : Nat) (A2 : Option Addr) (c2 : Nat), k ≤ 40 ∧ iv = .int .i64 k ∧ ov = .slice A2 k c2 ∧ Hid (Own wr w1.heap.size A2 c2 ((List.range k).map (mxE h x lag g))) ∧ Hid (Own wr w.heap.size (some ⟨gv, 0, none⟩) c1 P) ∧ Hid (Below w.heap.size w wr) ∧ Hid (w1.heap.size ≤ wr.heap.size)) (fun _ iv _ => 40 - (intOf iv).toNat)
      case atStart => exact ⟨0, none, 0, by omega, rfl, rfl, hid Own.nil, O1, L1, hid (Nat.le_refl _)⟩
      case round =>
        clear O1 L1
        obtain ⟨k, A2, c2, hk, rfl, rfl, HO, HV1, HB, HS⟩ := hrel
        by_cases hlt : k < 40
        · obtain ⟨ad, rfl, hadb, cb0⟩ := HR.out.at_ (k := k) (by rw [HN.out]; exact hlt)
          have cb := (HB.out.cell (p := ad.add k) (by rw [block_of_add]; exact hadb)).trans cb0
          have cp := HV1.out.cell k (by rw [HPL.out]; exact hlt)
          have hk40 : (k : Int) < 40 := by omega
          have HV := HE.out k
          have p64 := HP64.out.at_ k
          have b64 := HX64.out.at_ k
          have YN := hid (show (List.range k).map (mxE h x lag g) ++ [mxE h x lag g k] = (List.range (k + 1)).map (mxE h x lag g) from snoc_range _)
          have YL := hid (show ((List.range k).map (mxE h x lag g)).length = k by simp)
          generalize (List.range k).map (mxE h x lag g) = Y at *
          obtain ⟨p, hp⟩ : ∃ p, p = P.getD k 0 := ⟨_, rfl⟩
          obtain ⟨b, hb⟩ : ∃ b, b = x.getD k 0 := ⟨_, rfl⟩
          have HCP := hid (fun W (o : Own W w.heap.size (some ⟨gv, 0, none⟩) c1 P) => show W.cell? ⟨gv, k, none⟩ = some (.int .i64 p) by rw [hp]; exact o.cell k (by rw [HPL.out]; exact hlt))
          rw [← hp] at cp HV p64
          rw [← hb] at cb cb0 HV b64
          have CB0 := hid cb0
          unfold mxV at HV
          have KA := hid (fun W => S_any p W p64.1 p64.2)
          have KB := hid (fun W => S_any b W b64.1 b64.2)
          have ra := s16_range p
          have rb := s16_range b
          generalize s16 p = sa at KA HV ra
          generalize s16 b = sb at KB HV rb
          have hq := mx_mul ra.1 ra.2 g1 g2
          obtain ⟨q, hqe⟩ : ∃ q, sa * g = q := ⟨_, rfl⟩
          rw [hqe] at hq HV
          have hw1 : IntKind.i64.wrap (sa * g) = q := by rw [hqe, IntKind.wrap_i64]; omega
          have hw2 : IntKind.i64.wrap (q + 8192) = q + 8192 := by rw [IntKind.wrap_i64]; omega
          have KD := hid (fun W => down14 (q + 8192) W (by omega) (by omega))
          obtain ⟨r, hre⟩ : ∃ r, r = (q + 8192) / 16384 := ⟨_, rfl⟩
          rw [← hre] at KD HV
          obtain ⟨t, ht⟩ : ∃ t, t = r + sb := ⟨_, rfl⟩
          have hw3 : IntKind.i64.wrap (r + sb) = t := by rw [ht, IntKind.wrap_i64]; omega
          rw [← ht] at HV
          have KT := hid (fun W => S_any t W (by omega) (by omega))
          obtain ⟨y, hy⟩ : ∃ y, y = s16 t := ⟨_, rfl⟩
          rw [← hy] at KT HV
          rw [HV] at YN
          have hgvW : gv < wr.heap.size := by have := HGV2.out; have := HS.out; omega
          have hadW : ad.block < wr.heap.size := by have := HB.out.size; omega
          have HADB := hid hadb
          clear hp hb ra rb hq hqe hre ht hy HV p64 b64 hadb cb0
          go_wp2
          go_region_held3 (fun w' => w'.cell? ⟨gv, k, none⟩ = some (.int .i64 p) ∧ w'.cell? (ad.add k) = some (.int .i64 b)) (go_keep) (first
            | (go_at_call 47; (with_reducible refine (KA.out wr.drew).mono ?_); rintro e' wA ⟨rfl, hBA⟩; have LA : Below wr.heap.size wr wA := ((Below.refl wr.heap.size wr).drew).trans (hBA.mono (Nat.le_refl _)); have a0 : World.cell? wA ⟨gv, k, none⟩ = some (.int .i64 p) := (LA.cell hgvW).trans cp; have a1 : World.cell? wA (ad.add k) = some (.int .i64 b) := (LA.cell (by rw [block_of_add]; omega)).trans cb; have LA := hid LA; clear hBA)
            | (go_at_call 48; (with_reducible refine (KD.out wA).mono ?_); rintro e' wB ⟨rfl, hBB⟩; have LB : Below wr.heap.size wr wB := LA.out.trans (hBB.mono LA.out.size); have b0 : World.cell? wB ⟨gv, k, none⟩ = some (.int .i64 p) := (LB.cell hgvW).trans cp; have b1 : World.cell? wB (ad.add k) = some (.int .i64 b) := (LB.cell (by rw [block_of_add]; omega)).trans cb; have LB := hid LB; clear hBB)
            | (go_at_call 47; (with_reducible refine (KB.out wB).mono ?_); rintro e' wC ⟨rfl, hBC⟩; have LC : Below wr.heap.size wr wC := LB.out.trans (hBC.mono LB.out.size); have e0 : World.cell? wC ⟨gv, k, none⟩ = some (.int .i64 p) := (LC.cell hgvW).trans cp; have e1 : World.cell? wC (ad.add k) = some (.int .i64 b) := (LC.cell (by rw [block_of_add]; omega)).trans cb; have LC := hid LC; clear hBC)
            | (go_at_call 47; (with_reducible refine (KT.out wC).mono ?_); rintro e' wD ⟨rfl, hBD⟩; have LD : Below wr.heap.size wr wD := LC.out.trans (hBD.mono LC.out.size); have d0 : World.cell? wD ⟨gv, k, none⟩ = some (.int .i64 p) := (LD.cell hgvW).trans cp; have d1 : World.cell? wD (ad.add k) = some (.int .i64 b) := (LD.cell (by rw [block_of_add]; omega)).trans cb; have LD := hid LD; clear hBD)
            | (refine step_pushI rfl (.tmp 42) (.tmp 59) rfl w1.heap.size A2 c2 k Y rfl YL.out ((HO.out.below LD.out).alloc _) ⟨wD.heap.size, 0, none⟩ y rfl (cell_new wD _ _) (by omega) (by have := HS.out; have := LD.out.size; simp; omega) ?_; intro A3 c3 w5 hO hG; have V5 := (((HV1.out.below LD.out).alloc (.cells #[.int .i64 y] 3)).kept hG (fun a ha => by injection ha with ha; subst ha; cases A2 with | none => simp | some a2 => have := HO.out.lt a2 rfl; have := HGV2.out; simp; omega)); have B5 : Below w.heap.size w w5 := (((HB.out.trans (LD.out.mono HB.out.size)).alloc (by have := HB.out.size; have := LD.out.size; omega) (.cells #[.int .i64 y] 3)).grown hG (by have := HB.out.size; have := LD.out.size; simp; omega) (fun i hi => by cases A2 with | none => simp at hi | some a2 => have := HO.out.lt a2 rfl; have := HL1.out; simp at hi; omega)); have f0 := HCP.out w5 V5; have f1 : World.cell? w5 (ad.add k) = some (.int .i64 b) := (B5.cell (p := ad.add k) (by rw [block_of_add]; exact HADB.out)).trans CB0.out; have V5 := hid V5; have B5 := hid B5; have O5 := hid hO; have G5 := hid hG.size; clear hO hG))
          rename_i hHeldZ
          clear hHeldZ
          clear a0 a1 b0 b1 e0 e1 d0 d1 f0 f1 cp cb hw1 hw2 hw3
          simp only [Exit.then, Exit.inBlock]
          have S5 := hid (show w1.heap.size ≤ w5.heap.size by have h1 := HS.out; have h2 := HB.out.size; have h3 := LD.out.size; have h4 := G5.out; simp at h4; omega)
          go_wp2
          go_roundw
          case rel => exact ⟨k + 1, A3, c3, by omega, by go_num, rfl, hid (by have := O5.out; rwa [YN.out] at this), V5, B5, S5⟩
          case measure => simp [intOf] <;> omega
        · obtain rfl : k = 40 := by omega
          go_wp2
          go_ret2
          rw [E1.out]
          exact ⟨A2, c2, by simp, HO.out.more (by have := HL1.out; omega), HB.out⟩
    · obtain ⟨e1, e2⟩ := mx_bad (h := h) (x := x) (lag := lag) (g := g) (by unfold mxB pastB; simp; omega)
      rw [e1, e2]
      have FIN := hid (NewSE.none_ (er := 2) B0.out)
      clear e1 e2 hw hwx hr hn hh
      by_cases c1 : lag < 20
      · clear hg
        go_enter Try.func29, Try.ntmps29
        go_wp2
        go_ret2
        exact FIN.out
      by_cases c2 : 79 < lag
      · clear hg
        go_enter Try.func29, Try.ntmps29
        go_wp2
        go_ret2
        exact FIN.out
      by_cases c3 : g < 0
      · clear hg
        go_enter Try.func29, Try.ntmps29
        go_wp2
        go_ret2
        exact FIN.out
      · have c4 : 32767 < g := by omega
        clear hg
        go_enter Try.func29, Try.ntmps29
        go_wp2
        go_ret2
        exact FIN.out
  · obtain ⟨e1, e2⟩ := mx_size (h := h) (x := x) (lag := lag) (g := g) h40
    rw [e1, e2]
    have d1 : ((n : Int) == 40) = false := by simp; omega
    have d2 : ((n : Int) != 40) = true := by simp; omega
    have FIN := hid (NewSE.none_ (er := 1) B0.out)
    clear h40 e1 e2
    go_enter Try.func29, Try.ntmps29
    go_wp2
    go_ret2
    exact FIN.out
end Go.Proofs.Ytniechgbbkkncaa
