/- Texts that the law rests on, laid together: ChM, ChW. -/
import Derived.Test.YthoiikkjjaldnaaDoorZd30a9a
import Derived.Test.YthoiikkjjaldnaaDoorZ1fa083
import Derived.Test.YthoiikkjjaldnaaDoorZb1bb81
import Derived.Test.YthoiikkjjaldnaaDoorZ9f109e
import Derived.Test.YthoiikkjjaldnaaDoorZ791f0a
import Derived.Test.YthoiikkjjaldnaaDoorZ03f83b
import Derived.Test.YthoiikkjjaldnaaDoorZ36607d
import Derived.Test.YthoiikkjjaldnaaDoorZe3ce3e
import Derived.Test.YthoiikkjjaldnaaDoorZe90ea5
import Derived.Deep.RegionHeld3
/- Plain facts on the numbers that are chosen for half a frame. -/
namespace Go.Proofs.YthoiikkjjaldnaaDoor
set_option linter.unusedVariables false
set_option linter.unusedSimpArgs false
set_option maxRecDepth 100000
open Go.RowKit

def lessE (a b : List Int) (i : Nat) : Int := s16 (a.getD i 0 - b.getD i 0)
def lessL (a b : List Int) (n : Nat) : List Int := (List.range n).map (lessE a b)
def scaleE (l : List Int) (g : Int) (i : Nat) : Int := s16 ((l.getD i 0 * g + 8192) / 16384)
def scaleL (l : List Int) (g : Int) (n : Nat) : List Int := (List.range n).map (scaleE l g)
theorem lessL_len (a b : List Int) (n : Nat) : (lessL a b n).length = n := by simp [lessL]
theorem scaleL_len (l : List Int) (g : Int) (n : Nat) : (scaleL l g n).length = n := by simp [scaleL]
theorem map_s16 (f : Nat → Int) (h : ∀ i, ∃ x, f i = s16 x) (n : Nat) : all16 ((List.range n).map f) = true := by
  unfold all16
  rw [List.all_eq_true]
  intro y hy
  obtain ⟨i, _, rfl⟩ := List.mem_map.1 hy
  obtain ⟨x, hx⟩ := h i
  rw [hx]
  exact ok16_s16 x
theorem lessL_in (a b : List Int) (n : Nat) : all16 (lessL a b n) = true := map_s16 _ (fun i => ⟨_, rfl⟩) n
theorem scaleL_in (l : List Int) (g : Int) (n : Nat) : all16 (scaleL l g n) = true := map_s16 _ (fun i => ⟨_, rfl⟩) n
/-- What the filter gives of itself. -/
def chRst (m : Mm) (a : List Int) : List Int := makeN a m.p (List.replicate 40 0) 40
def chT (m : Mm) (a l : List Int) : List Int := lessL l (chRst m a) 40
def chR (a : List Int) : List Int := ringL a 40
def chK (m : Mm) (a l : List Int) : Int × Int × Int := pkS (chR a) m.e (chT m a l) 60
def chP (m : Mm) (a l : List Int) : Int := nearestV (chK m a l).2.1 (chK m a l).2.2
def chV (m : Mm) (a l : List Int) : List Int := foL (chR a) (pastL m.e (chK m a l).1)
def chT2 (m : Mm) (a l : List Int) : List Int := lessL (chT m a l) (scaleL (chV m a l) (gainV (chP m a l)) 40) 40
def chD (m : Mm) (a l : List Int) : List Int := tgL (chT2 m a l) (chR a)
def chI (m : Mm) (a l : List Int) : List Int := fewN (chD m a l) (chR a) 8
def chS (m : Mm) (a l : List Int) : Int := sgnB (chD m a l) (chI m a l) 4
def chF (m : Mm) (a l : List Int) : List Int := foL (chR a) (blL (chI m a l) (chS m a l) 4096)
def chL (m : Mm) (a l : List Int) : Int := gainOneV (dotL (chT2 m a l) (chF m a l) 40 * 4096) (dotL (chF m a l) (chF m a l) 40)
def chU (m : Mm) (a l : List Int) : List Int := ((chK m a l).1 - 20) :: chP m a l :: (chI m a l ++ [chS m a l, chL m a l])
theorem zeros_in (n : Nat) : all16 (List.replicate n 0) = true := by
  unfold all16
  rw [List.all_eq_true]
  intro x hx
  rw [List.eq_of_mem_replicate hx]
  decide
theorem ringX_in : all16 (ringX 40) = true := by decide
section
variable {m : Mm} {a l : List Int}
theorem chRst_len : (chRst m a).length = 40 := makeN_len _ _ _ _
theorem chT_len : (chT m a l).length = 40 := lessL_len _ _ _
theorem chT_in : all16 (chT m a l) = true := lessL_in _ _ _
theorem ring_eq (ha : goodA a) : ringL a 40 = makeN a Z8 (ringX 40) 40 ∧ ringErr a 40 = 0 := by
  have hb : ringB 40 = true := by decide
  have hF : goodF a Z8 (ringX (40 : Int).toNat) = true := goodA_F ha (zeros_in 8) ringX_in
  unfold ringL ringErr
  rw [hb, if_pos rfl, if_pos rfl, hF, if_pos rfl]
  exact ⟨rfl, rfl⟩
theorem chR_len (ha : goodA a) : (chR a).length = 40 := by unfold chR; rw [(ring_eq ha).1]; exact makeN_len _ _ _ _
theorem chR_in (ha : goodA a) : all16 (chR a) = true := by unfold chR; rw [(ring_eq ha).1]; exact makeN_all _ _ _ _
theorem chR_pk (ha : goodA a) : pkR (chR a) = true := by unfold pkR; rw [chR_in ha, chR_len ha]; rfl
theorem chK_lag : 20 ≤ (chK m a l).1 ∧ (chK m a l).1 ≤ 79 := pkS_lag _ _ _ 60 (Nat.le_refl _)
theorem near_top (vs : List Int) (one c e : Int) {k : Nat} (h : 0 < k) : 0 ≤ nearB vs one c e (k + 1) ∧ nearB vs one c e (k + 1) ≤ k := by
  have h2 := nearB_range vs one c e k
  rw [nearB_step vs one c e h]
  split <;> omega
theorem nearest_rng (c e : Int) : 0 ≤ nearestV c e ∧ nearestV c e ≤ 7 := by
  unfold nearestV
  split
  · omega
  · exact near_top gainsL 16384 (cap40 c) (cap40 e) (k := 7) (by omega)
theorem one_rng (c e : Int) : 0 ≤ gainOneV c e ∧ gainOneV c e ≤ 31 := by
  unfold gainOneV
  split
  · omega
  · exact near_top glL 1 (cap60 c) (cap44 e) (k := 31) (by omega)
theorem chP_rng : 0 ≤ chP m a l ∧ chP m a l ≤ 7 := nearest_rng _ _
theorem chPast_len : (pastL m.e (chK m a l).1).length = 40 := pastL_len (pastB_yes chK_lag.1 chK_lag.2)
theorem chPast_in (g : goodM m = true) : all16 (pastL m.e (chK m a l).1) = true := pastL_in (all16_at (goodM_of g).2.2.1) _
theorem chV_len (g : goodM m = true) (ha : goodA a) : (chV m a l).length = 40 := by
  have h := pk_fo (ring := chR a) (v := pastL m.e (chK m a l).1) chPast_len (chPast_in g)
  rw [chR_pk ha] at h
  exact h
theorem chV_in : all16 (chV m a l) = true := foL_in _ _
theorem chT2_len : (chT2 m a l).length = 40 := lessL_len _ _ _
theorem chT2_in : all16 (chT2 m a l) = true := lessL_in _ _ _
theorem chD_err (ha : goodA a) : tgErr (chT2 m a l) (chR a) = 0 := by
  rw [tgErr_all chT2_len (chR_len ha)]
  unfold tgB
  rw [chT2_in, chR_in ha]; rfl
theorem chD_len (ha : goodA a) : (chD m a l).length = 40 := by unfold chD; rw [tgL_good (chD_err ha)]; simp
theorem chD_rng (ha : goodA a) : ∀ x ∈ chD m a l, -42949672960 ≤ x ∧ x ≤ 42949672960 := by
  intro x hx
  unfold chD at hx
  rw [tgL_good (chD_err ha)] at hx
  obtain ⟨n, _, rfl⟩ := List.mem_map.1 hx
  have := tgT_range (all16_at (chT2_in (m := m) (a := a) (l := l))) (chR a) n 40
  unfold tgE
  omega
theorem chD_64 (ha : goodA a) : W64 (chD m a l) := fun x hx => by have := chD_rng ha x hx; omega
theorem ch_se (ha : goodA a) : seErr (chD m a l) (chR a) = 0 := by
  unfold seErr
  rw [if_pos ⟨chD_len ha, chR_len ha⟩, if_pos ?_]
  rw [List.all_eq_true]
  intro x hx
  have := chD_rng ha x hx
  simp; omega
theorem chI_ix : Ix (chI m a l) := fewN_ix _ _ _
theorem chI_len : (chI m a l).length = 4 := chI_ix.1
theorem chI_at {j : Nat} (hj : j < 4) : 0 ≤ (chI m a l).getD j 0 ∧ (chI m a l).getD j 0 ≤ 9 := by
  have h := chI_ix (m := m) (a := a) (l := l)
  have h2 := h.2
  unfold okIx at h2
  have h3 := all_at h2 j (by rw [h.1]; exact hj)
  simpa using h3
theorem chS_rng : 0 ≤ chS m a l ∧ chS m a l ≤ 15 := by
  have := sgnN_lt (chD m a l) (chI m a l) 4
  unfold chS sgnB
  omega
theorem chBl : blB (chI m a l) (chS m a l) 4096 = true := by
  have h := chS_rng (m := m) (a := a) (l := l)
  unfold blB blS
  rw [Bool.and_eq_true]
  refine ⟨decide_eq_true ⟨h, by omega, by omega⟩, ?_⟩
  have h3 : allTo okI (chI m a l) 4 := fun j hj => by
    have := chI_at (m := m) (a := a) (l := l) hj
    exact okI_yes this.1 this.2
  exact h3.all (by rw [chI_len]; exact Nat.le_refl _)
theorem chOne_len : (blL (chI m a l) (chS m a l) 4096).length = 40 := by unfold blL; rw [chBl]; simp
theorem chOne_in : all16 (blL (chI m a l) (chS m a l) 4096) = true := by
  unfold blL
  rw [chBl, if_pos rfl]
  unfold all16
  rw [List.all_eq_true]
  intro y hy
  obtain ⟨i, _, rfl⟩ := List.mem_map.1 hy
  unfold blE
  split
  · split <;> decide
  · decide
theorem chF_len (ha : goodA a) : (chF m a l).length = 40 := by
  have h := pk_fo (ring := chR a) (v := blL (chI m a l) (chS m a l) 4096) chOne_len chOne_in
  rw [chR_pk ha] at h
  exact h
theorem chF_in : all16 (chF m a l) = true := foL_in _ _
theorem chL_rng : 0 ≤ chL m a l ∧ chL m a l ≤ 31 := one_rng _ _
theorem chU_len : (chU m a l).length = 8 := by unfold chU; simp [chI_len]
theorem chU_ok : UOk (chU m a l) := by
  have h1 := chK_lag (m := m) (a := a) (l := l)
  have h2 := chP_rng (m := m) (a := a) (l := l)
  have h3 := chS_rng (m := m) (a := a) (l := l)
  have h4 := chL_rng (m := m) (a := a) (l := l)
  have hI := chI_len (m := m) (a := a) (l := l)
  have hj : ∀ j, j < 4 → 0 ≤ (chI m a l).getD j 0 ∧ (chI m a l).getD j 0 ≤ 9 := fun j hj => chI_at hj
  have hl := chU_len (m := m) (a := a) (l := l)
  unfold chU at *
  generalize (chK m a l).1 = k at *
  generalize chP m a l = p at *
  generalize chS m a l = s at *
  generalize chL m a l = v at *
  generalize chI m a l = I at *
  match I, hI with
  | [i0, i1, i2, i3], _ =>
    refine ⟨hl, ⟨by show 0 ≤ k - 20; omega, by show k - 20 ≤ 59; omega⟩, h2, fun j a1 a2 => ?_, h3, h4⟩
    have e : j = 2 ∨ j = 3 ∨ j = 4 ∨ j = 5 := by omega
    rcases e with rfl | rfl | rfl | rfl
    · exact hj 0 (by omega)
    · exact hj 1 (by omega)
    · exact hj 2 (by omega)
    · exact hj 3 (by omega)
end
end Go.Proofs.YthoiikkjjaldnaaDoor

/- Package coder's less, scale, dot, quiet and the closure that folds. -/
namespace Go.Proofs.YthoiikkjjaldnaaDoor
set_option linter.unusedVariables false
set_option linter.unusedSimpArgs false
set_option maxRecDepth 100000
open Go.RowKit

theorem upto_setN {f : Nat → Int} {ys : List Int} {n k : Nat} (hl : ys.length = n) (h : ∀ j, j < k → ys.getD j 0 = f j) (hk : k < n) : (ys.set k (f k)).length = n ∧ ∀ j, j < k + 1 → (ys.set k (f k)).getD j 0 = f j := by
  refine ⟨by simpa using hl, fun j hj => ?_⟩
  by_cases e : k = j
  · subst e; exact get_set_same _ _ _ (by omega)
  · rw [get_set_other _ _ e]; exact h j (by omega)
theorem upto_allN {f : Nat → Int} {ys : List Int} {n : Nat} (hl : ys.length = n) (h : ∀ j, j < n → ys.getD j 0 = f j) : ys = (List.range n).map f :=
  list_ext (by simpa using hl) fun k hk => by rw [hl] at hk; rw [h k hk, range_get f hk]

theorem addB (a : Addr) (n : Nat) : (a.add n).block = a.block := by unfold Addr.add; split <;> rfl
set_option maxHeartbeats 2000000 in
theorem less_any (A A2 : Option Addr) (c c2 : Nat) (a b : List Int) (w : World) (hr : Rs w w.heap.size A a) (hr2 : Rs w w.heap.size A2 b) (hn : a.length = 40) (hm : b.length = 40) (h1 : In16 a) (h2 : In16 b) :
    Calls Tryd.prog 49 #[.slice A 40 c, .slice A2 40 c2] w (NewS w (lessL a b 40)) := by
  have HX := hid hr
  have HY := hid hr2
  have HN := hid hn
  have HM := hid hm
  have H1 := hid h1
  have H2 := hid h2
  clear hr hr2 hn hm h1 h2
  go_enter Tryd.func49, Tryd.ntmps49
  go_wp2_with (at_make; refine wpList_makeI rfl _ _ rfl .i64 .i64 40 rfl rfl w.heap.size (by omega) (Nat.le_refl _) ?_; intro w1 hO hG; have O1 := hid hO; have B1 := hid ((Below.refl w.heap.size w).grown hG (Nat.le_refl _) (by simp)); clear hO hG)
  go_loopw [6, 12] (fun _ iv wr => ∃ (k : Nat) (ys : List Int), k ≤ 40 ∧ iv = .int .i64 k ∧ Hid (ys.length = 40 ∧ ∀ j, j < k → ys.getD j 0 = lessE a b j) ∧ Hid (Own wr w.heap.size (some ⟨w.heap.size, 0, none⟩) 40 ys) ∧ Hid (Below w.heap.size w wr)) (fun _ iv _ => 40 - (intOf iv).toNat)
  case atStart => exact ⟨0, _, by omega, rfl, hid ⟨by simp, fun j h => by omega⟩, O1, B1⟩
  case round =>
    clear O1 B1
    obtain ⟨k, ys, hk, rfl, HY2, HO, HB⟩ := hrel
    by_cases hlt : k < 40
    · obtain ⟨ad, rfl, hadb, k0⟩ := (HX.out.below HB.out).at_ (k := k) (by rw [HN.out]; exact hlt)
      obtain ⟨ae, rfl, haeb, k1⟩ := (HY.out.below HB.out).at_ (k := k) (by rw [HM.out]; exact hlt)
      have x16 := H1.out k
      have y16 := H2.out k
      have cp := HO.out.cell k (by rw [HY2.out.1]; exact hlt)
      have fp := HO.out.frozen k
      have NO := hid (HO.out.set_ k (by rw [HY2.out.1]; exact hlt) (lessE a b k))
      have NB := hid (HB.out.setCell (p := ⟨w.heap.size, k, none⟩) (Nat.le_refl _) (.int .i64 (lessE a b k)))
      have NX := hid (upto_setN (f := lessE a b) HY2.out.1 HY2.out.2 hlt)
      have KS := hid (fun W => show Calls Tryd.prog 81 #[.int .i64 (a.getD k 0 - b.getD k 0)] W (fun e w' => e = .returned (.int .i64 (lessE a b k)) ∧ W = w') from codersat_any _ W)
      generalize lessE a b k = z at *
      generalize a.getD k 0 = x at *
      generalize b.getD k 0 = y at *
      have hw1 : IntKind.i64.wrap (x - y) = x - y := by rw [IntKind.wrap_i64]; omega
      have i40 : (k : Int) < 40 := by omega
      have hadn : ad.block ≠ w.heap.size := by omega
      have haen : ae.block ≠ w.heap.size := by omega
      have P1 : (wr.setCell ⟨w.heap.size, k, none⟩ (.int .i64 z)).drew.cell? (ad.add k) = some (.int .i64 x) := by
        show (wr.setCell ⟨w.heap.size, k, none⟩ (.int .i64 z)).cell? (ad.add k) = _
        refine (World.cell?_setCell_far _ _ _ _ fun e => hadn ?_).trans k0
        first | exact (addB _ _).symm.trans e.symm | exact (addB _ _).symm.trans e
      have P2 : (wr.setCell ⟨w.heap.size, k, none⟩ (.int .i64 z)).drew.cell? (ae.add k) = some (.int .i64 y) := by
        show (wr.setCell ⟨w.heap.size, k, none⟩ (.int .i64 z)).cell? (ae.add k) = _
        refine (World.cell?_setCell_far _ _ _ _ fun e => haen ?_).trans k1
        first | exact (addB _ _).symm.trans e.symm | exact (addB _ _).symm.trans e
      go_wp2
      go_region_held3 (fun w' => w'.cell? (ad.add k) = some (.int .i64 x) ∧ w'.cell? (ae.add k) = some (.int .i64 y)) (first | (exact ⟨P1, P2⟩) | go_keep) (first
        | (go_at_call 81; (with_reducible refine (KS.out _).mono ?_); rintro e w' ⟨rfl, rfl⟩))
      go_wp2
      go_roundw
      case rel => exact ⟨k + 1, _, by omega, by go_num, NX, NO, hid (NB.out.trans ((Below.refl _ _).drew.mono NB.out.size))⟩
      case measure => simp [intOf] <;> omega
    · obtain rfl : k = 40 := by omega
      go_wp2
      go_ret
      exact ⟨_, _, by rw [lessL_len]; rfl, by unfold lessL; rw [← upto_allN HY2.out.1 HY2.out.2]; exact HO.out, HB.out⟩
set_option maxHeartbeats 2000000 in
theorem scale_any (A : Option Addr) (c : Nat) (a : List Int) (g : Int) (w : World) (hr : Rs w w.heap.size A a) (hn : a.length = 40) (h1 : In16 a) (hg : -32768 ≤ g ∧ g ≤ 32767) :
    Calls Tryd.prog 57 #[.slice A 40 c, .int .i64 g] w (NewS w (scaleL a g 40)) := by
  have HX := hid hr
  have HN := hid hn
  have H1 := hid h1
  clear hr hn h1
  go_enter Tryd.func57, Tryd.ntmps57
  go_wp2_with (at_make; refine wpList_makeI rfl _ _ rfl .i64 .i64 40 rfl rfl w.heap.size (by omega) (Nat.le_refl _) ?_; intro w1 hO hG; have O1 := hid hO; have B1 := hid ((Below.refl w.heap.size w).grown hG (Nat.le_refl _) (by simp)); clear hO hG)
  go_loopw [6, 7, 13] (fun _ _ iv wr => ∃ (k : Nat) (ys : List Int), k ≤ 40 ∧ iv = .int .i64 k ∧ Hid (ys.length = 40 ∧ ∀ j, j < k → ys.getD j 0 = scaleE a g j) ∧ Hid (Own wr w.heap.size (some ⟨w.heap.size, 0, none⟩) 40 ys) ∧ Hid (Below w.heap.size w wr)) (fun _ _ iv _ => 40 - (intOf iv).toNat)
  case atStart => exact ⟨0, _, by omega, rfl, hid ⟨by simp, fun j h => by omega⟩, O1, B1⟩
  case round =>
    clear O1 B1
    obtain ⟨k, ys, hk, rfl, HY2, HO, HB⟩ := hrel
    by_cases hlt : k < 40
    · obtain ⟨ad, rfl, hadb, k0⟩ := (HX.out.below HB.out).at_ (k := k) (by rw [HN.out]; exact hlt)
      have x16 := H1.out k
      have cp := HO.out.cell k (by rw [HY2.out.1]; exact hlt)
      have fp := HO.out.frozen k
      have NO := hid (HO.out.set_ k (by rw [HY2.out.1]; exact hlt) (scaleE a g k))
      have NB := hid (HB.out.setCell (p := ⟨w.heap.size, k, none⟩) (Nat.le_refl _) (.int .i64 (scaleE a g k)))
      have NX := hid (upto_setN (f := scaleE a g) HY2.out.1 HY2.out.2 hlt)
      have KS := hid (fun W => show Calls Tryd.prog 81 #[.int .i64 ((a.getD k 0 * g + 8192) / 16384)] W (fun e w' => e = .returned (.int .i64 (scaleE a g k)) ∧ W = w') from codersat_any _ W)
      generalize scaleE a g k = z at *
      generalize a.getD k 0 = x at *
      obtain ⟨p1, p2⟩ := prod16 x16.1 x16.2 hg.1 hg.2
      have hw1 : IntKind.i64.wrap (x * g) = x * g := by rw [IntKind.wrap_i64]; omega
      have hw2 : IntKind.i64.wrap (x * g + 8192) = x * g + 8192 := by rw [IntKind.wrap_i64]; omega
      have hw3 : IntKind.i64.wrap ((x * g + 8192) / 16384) = (x * g + 8192) / 16384 := by rw [IntKind.wrap_i64]; omega
      have i40 : (k : Int) < 40 := by omega
      have hadn : ad.block ≠ w.heap.size := by omega
      go_wp2_with (go_at_call 81; (with_reducible refine (KS.out _).mono ?_); rintro e w' ⟨rfl, rfl⟩)
      go_roundw
      case rel => exact ⟨k + 1, _, by omega, by go_num, NX, NO, NB⟩
      case measure => simp [intOf] <;> omega
    · obtain rfl : k = 40 := by omega
      go_wp2
      go_ret
      exact ⟨_, _, by rw [scaleL_len]; rfl, by unfold scaleL; rw [← upto_allN HY2.out.1 HY2.out.2]; exact HO.out, HB.out⟩
set_option maxHeartbeats 4000000 in
theorem coderdot_any (A A2 : Option Addr) (cA cB n m : Nat) (xs ys : List Int) (w : World) (hx : Rs w w.heap.size A xs) (hy : Rs w w.heap.size A2 ys) (hn : xs.length = n) (hm : ys.length = m) (hnm : n ≤ m) (hl : n ≤ 1000) (h1 : In16 xs) (h2 : In16 ys) :
    Calls Tryd.prog 62 #[.slice A n cA, .slice A2 m cB] w fun e w' => e = .returned (.int .i64 (dotL xs ys n)) ∧ w = w' := by
  have HX := hid hx
  have HY := hid hy
  have HN := hid hn
  have HM := hid hm
  have H1 := hid h1
  have H2 := hid h2
  clear hx hy hn hm h1 h2
  go_enter Tryd.func62, Tryd.ntmps62
  go_wp2
  go_loop [5, 10] (fun sv iv => ∃ (k : Nat) (s : Int), k ≤ n ∧ iv = .int .i64 k ∧ sv = .int .i64 s ∧ Hid (s = dotL xs ys k)) (fun _ iv => n - (intOf iv).toNat)
  case atStart => exact ⟨0, 0, by omega, rfl, rfl, hid rfl⟩
  case round =>
    obtain ⟨k, s, hk, rfl, rfl, HS⟩ := hrel
    by_cases hlt : k < n
    · have dr := dotL_range H1.out H2.out k
      rw [← HS.out] at dr
      have s1 : -1073741824000 ≤ s := by omega
      have s2 : s ≤ 1073741824000 := by omega
      have ST := hid (show dotL xs ys (k + 1) = s + xs.getD k 0 * ys.getD k 0 by rw [HS.out]; rfl)
      obtain ⟨ad, rfl, _, k0⟩ := HX.out.at_ (k := k) (by rw [HN.out]; exact hlt)
      obtain ⟨ae, rfl, _, k1⟩ := HY.out.at_ (k := k) (by rw [HM.out]; omega)
      have x16 := H1.out k
      have y16 := H2.out k
      generalize xs.getD k 0 = x at *
      generalize ys.getD k 0 = y at *
      obtain ⟨p1, p2⟩ := prod16 x16.1 x16.2 y16.1 y16.2
      have i2 : (k : Int) < m := by omega
      clear dr
      go_wp2
      go_round
      case rel => exact ⟨k + 1, _, by omega, by go_num, rfl, hid ST.out.symm⟩
      case measure => simp [intOf] <;> omega
    · obtain rfl : k = n := by omega
      go_wp2
      go_ret
      exact ⟨by rw [← HS.out]; rfl, rfl⟩
def quietB (l : List Int) (n : Nat) : Bool := decide (dotL l l n < 16 * (n : Int))
set_option maxHeartbeats 4000000 in
theorem quiet_any (A : Option Addr) (c n : Nat) (l : List Int) (w : World) (hx : Rs w w.heap.size A l) (hn : l.length = n) (hl : n ≤ 1000) (h1 : In16 l) :
    Calls Tryd.prog 28 #[.slice A n c] w fun e w' => e = .returned (.bool (quietB l n)) ∧ w = w' := by
  have HX := hid hx
  have HN := hid hn
  have H1 := hid h1
  clear hx hn h1
  go_enter Tryd.func28, Tryd.ntmps28
  go_wp2
  go_loop [3, 8] (fun sv iv => ∃ (k : Nat) (s : Int), k ≤ n ∧ iv = .int .i64 k ∧ sv = .int .i64 s ∧ Hid (s = dotL l l k)) (fun _ iv => n - (intOf iv).toNat)
  case atStart => exact ⟨0, 0, by omega, rfl, rfl, hid rfl⟩
  case round =>
    obtain ⟨k, s, hk, rfl, rfl, HS⟩ := hrel
    have dr := dotL_range H1.out H1.out k
    rw [← HS.out] at dr
    have s1 : -1073741824000 ≤ s := by omega
    have s2 : s ≤ 1073741824000 := by omega
    clear dr
    by_cases hlt : k < n
    · have ST := hid (show dotL l l (k + 1) = s + l.getD k 0 * l.getD k 0 by rw [HS.out]; rfl)
      obtain ⟨ad, rfl, _, k0⟩ := HX.out.at_ (k := k) (by rw [HN.out]; exact hlt)
      have x16 := H1.out k
      generalize l.getD k 0 = x at *
      obtain ⟨p1, p2⟩ := prod16 x16.1 x16.2 x16.1 x16.2
      go_wp2
      go_round
      case rel => exact ⟨k + 1, _, by omega, by go_num, rfl, hid ST.out.symm⟩
      case measure => simp [intOf] <;> omega
    · obtain rfl : k = n := by omega
      have hw1 : IntKind.i64.wrap (16 * (k : Int)) = 16 * k := by rw [IntKind.wrap_i64]; omega
      have HQ := hid (show quietB l k = decide (s < 16 * (k : Int)) by rw [HS.out]; rfl)
      go_wp2
      go_ret
      exact ⟨by rw [HQ.out]; rfl, rfl⟩
end Go.Proofs.YthoiikkjjaldnaaDoor
