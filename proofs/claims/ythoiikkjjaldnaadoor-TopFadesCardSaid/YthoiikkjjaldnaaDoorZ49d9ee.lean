/- Texts that the law rests on, laid together: TopF, TopG, TopH. -/
import Derived.Test.YthoiikkjjaldnaaDoorZ04c3ca
import Derived.Test.YthoiikkjjaldnaaDoorZ74332c
import Derived.Test.YthoiikkjjaldnaaDoorZ9e0fbb
import Derived.Test.YthoiikkjjaldnaaDoorZ277b83
import Derived.Test.YthoiikkjjaldnaaDoorZ8f0d8b
/- Plain law: lost frames keep a memory good, and fade to nought; a byte that is turned is refused. -/
namespace Go.Proofs.YthoiikkjjaldnaaDoor
set_option linter.unusedVariables false
set_option linter.unusedSimpArgs false
set_option maxRecDepth 100000
open Go.RowKit

theorem eraA_good {m : Mm} (g : goodM m = true) : goodA (eraA m) := by
  have h := dirL_goodA (okK_steady (goodM_of g).1)
  have hl := dirL_len m.r
  have hb : exB (dirL m.r) 32440 = true := by
    unfold exB
    rw [Bool.and_eq_true, List.all_eq_true]
    refine ⟨by decide, fun x hx => ?_⟩
    obtain ⟨i, hi, rfl⟩ := List.getElem_of_mem hx
    have h1 := okP_at h.1 i
    rw [List.getD_eq_getElem?_getD, List.getElem?_eq_getElem hi, Option.getD_some] at h1
    unfold okA
    simp
    omega
  have e : eraA m = (List.range 9).map (exE (dirL m.r) 32440) := by unfold eraA exL; rw [if_pos hb]
  rw [e]
  constructor
  · unfold okP
    rw [List.all_eq_true]
    intro x hx
    obtain ⟨i, _, rfl⟩ := List.mem_map.1 hx
    have h1 := okP_at h.1 i
    have h2 := exF_range (g := 32440) (by omega) (by omega) i
    unfold exE
    have h3 := mul_bound (x := (dirL m.r).getD i 0) (X := 1048576) (y := exF 32440 i) (Y := 32768) (by omega) (by omega) (by omega) (by omega)
    exact okP1_yes (by omega) (by omega)
  · rw [map_range_get _ (by omega)]
    unfold exE
    rw [h.2]
    rfl
theorem eraX_in (m : Mm) : all16 (eraX m) = true := mxL_in _ _ _ _ _
theorem eraB_yes {m : Mm} (g : goodM m = true) {s : Int} (h0 : 0 ≤ s) (h1 : s ≤ 1) : eraB m s = true := by
  unfold eraB
  rw [g]
  simp
  omega
theorem eraP_good {m : Mm} (g : goodM m = true) (s : Int) : goodM (eraP m s) = true := by
  obtain ⟨h1, h2, h3, t1, t2, t3, t4, t5⟩ := goodM_of g
  refine goodM_yes h1 h2 h3 ⟨t1, t2, t3, t4, ?_⟩
  show 0 ≤ er1 m s ∧ er1 m s ≤ 6
  unfold er1
  split <;> omega
theorem eraN_good {m : Mm} (g : goodM m = true) : goodM (eraN m) = true := by
  obtain ⟨h1, h2, h3, t1, t2, t3, t4, t5⟩ := goodM_of g
  refine goodM_yes h1 h2 (keepL_in h3) ⟨t1, ?_, t3, t4, t5⟩
  show 0 ≤ nzE m.se 40 ∧ nzE m.se 40 < 65536
  have := nzS_range (nzE m.se 39)
  rw [show (40 : Nat) = 39 + 1 from rfl, nzE_succ]
  omega
theorem eraR_good {m : Mm} (g : goodM m = true) {s : Int} (h0 : 0 ≤ s) (h1 : s ≤ 1) : goodM (eraR m s) = true := by
  unfold eraR
  rw [if_pos (eraB_yes g h0 h1)]
  exact eraN_good (eraP_good g s)
theorem eraY_yes {m : Mm} (g : goodM m = true) {s : Int} (h0 : 0 ≤ s) (h1 : s ≤ 1) : (eraY m s).length = 40 ∧ all16 (eraY m s) = true := by
  unfold eraY
  rw [if_pos (eraB_yes g h0 h1)]
  exact ⟨eraX_len (goodM_of (eraP_good g s)).2.2.2.1, eraX_in _⟩
/-- A lost half, whole. -/
theorem stM_good {a : List Int} {m : Mm} (g : goodM m = true) (ha : goodA a) {s : Int} (h0 : 0 ≤ s) (h1 : s ≤ 1) : goodM (stM a m s) = true ∧ (stY a m s).length = 40 := by
  have g2 := eraR_good g h0 h1
  obtain ⟨hl, hi⟩ := eraY_yes g h0 h1
  obtain ⟨e1, e2⟩ := play_yes (p := (eraR m s).p) ha (goodM_of g2).2.1 hi hl
  unfold stM stY
  rw [e1, e2]
  exact ⟨goodM_play g2 _ _ _, makeN_len _ _ _ _⟩
theorem coM_good {m : Mm} (g : goodM m = true) : goodM (coM m) = true ∧ (coY m).length = 80 := by
  have ha := eraA_good g
  obtain ⟨g1, l1⟩ := stM_good (a := eraA m) g ha (s := 0) (by omega) (by omega)
  obtain ⟨g2, l2⟩ := stM_good (a := eraA m) g1 ha (s := 1) (by omega) (by omega)
  unfold coM coY
  rw [if_pos g, if_pos g]
  exact ⟨g2, by rw [List.length_append, l1, l2]⟩
/-! How many are lost on end; the excitation behind six. -/
theorem stM_er {a : List Int} {m : Mm} (g : goodM m = true) {s : Int} (h0 : 0 ≤ s) (h1 : s ≤ 1) : (stM a m s).er = er1 m s ∧ (stM a m s).e = keepL m.e (eraX (eraP m s)) := by
  unfold stM eraR
  rw [if_pos (eraB_yes g h0 h1)]
  exact ⟨rfl, rfl⟩
theorem coM_er {m : Mm} (g : goodM m = true) : (coM m).er = er1 m 0 := by
  have ha := eraA_good g
  obtain ⟨g1, _⟩ := stM_good (a := eraA m) g ha (s := 0) (by omega) (by omega)
  unfold coM
  rw [if_pos g, (stM_er g1 (s := 1) (by omega) (by omega)).1]
  unfold er1
  rw [if_neg (by omega)]
  exact (stM_er g (s := 0) (by omega) (by omega)).1
/-- Six lost frames on end. -/
def coN (m : Mm) : Nat → Mm
  | 0 => m
  | n + 1 => coM (coN m n)
theorem coN_good {m : Mm} (g : goodM m = true) (n : Nat) : goodM (coN m n) = true := by
  induction n with
  | zero => exact g
  | succ n ih => exact (coM_good ih).1
theorem coN_ok {m : Mm} (k : m.ok) (n : Nat) : (coN m n).ok := by
  induction n with
  | zero => exact k
  | succ n ih => exact coM_ok ih
theorem coN_er {m : Mm} (g : goodM m = true) (n : Nat) : (n : Int) ≤ (coN m n).er ∨ (coN m n).er = 6 := by
  induction n with
  | zero =>
    left
    obtain ⟨_, _, _, t1, t2, t3, t4, t5⟩ := goodM_of g
    exact t5.1
  | succ n ih =>
    rw [coN, coM_er (coN_good g n)]
    unfold er1
    split
    · left; omega
    · next h =>
      right
      obtain ⟨_, _, _, t1, t2, t3, t4, t5⟩ := goodM_of (coN_good g n)
      have := t5.2
      omega
theorem nzX_zero (s : Int) : nzX s 0 = 0 := by
  unfold nzX
  rw [show nzZ 0 = 0 from rfl, Int.mul_zero]
  rfl
theorem nzL_zero (s : Int) (n : Nat) : nzL s 0 n = List.replicate n 0 := by
  induction n generalizing s with
  | zero => rfl
  | succ n ih => rw [nzL, nzX_zero, ih]; rfl
theorem mxV_zero (p : Int) : mxV p 0 0 = 0 := by
  unfold mxV
  rw [Int.mul_zero]
  rfl
theorem eraX_zero {m : Mm} (g : goodM m = true) (h : m.er = 6) : eraX m = List.replicate 40 0 := by
  have f0 : ∀ x, fade x m.er = 0 := fun x => by unfold fade; rw [if_pos (.inr (by omega))]
  have hb : mxB m.la 0 = true := by
    have := eraX_good (m := m) (goodM_of g).2.2.2.1
    rwa [f0] at this
  unfold eraX eraZ
  rw [f0, f0, (mx_good hb).1, show (0 : Int) / 4 = 0 from rfl, nzL_zero]
  refine list_ext (by simp) fun k hk => ?_
  have hk : k < 40 := by simpa using hk
  rw [map_range_get _ hk]
  unfold mxE
  have h0 : (List.replicate 40 (0 : Int)).getD k 0 = 0 := by
    rw [List.getD_eq_getElem?_getD, List.getElem?_replicate]
    split <;> rfl
  rw [h0, mxV_zero]
theorem keepL_two {h : List Int} (hl : h.length = 80) : keepL (keepL h (List.replicate 40 0)) (List.replicate 40 0) = List.replicate 80 0 := by
  have e : (List.replicate 40 (0 : Int)).map s16 = List.replicate 40 0 := by rw [List.map_replicate]; rfl
  unfold keepL
  rw [e, List.drop_append, List.drop_drop, List.length_drop, hl, List.drop_of_length_le (by omega), List.nil_append]
  rw [show 40 - (80 - 40) = 0 from rfl, List.drop_zero, List.replicate_append_replicate]
/-- Behind six, one more. -/
theorem coM_faded {m : Mm} (k : m.ok) (g : goodM m = true) (h : m.er = 6) : (coM m).e = List.replicate 80 0 := by
  have ha := eraA_good g
  obtain ⟨g1, _⟩ := stM_good (a := eraA m) g ha (s := 0) (by omega) (by omega)
  have p0 : eraP m 0 = m := by
    unfold eraP er1
    rw [if_neg (by omega)]
  have e1 := stM_er (a := eraA m) g (s := 0) (by omega) (by omega)
  rw [p0, eraX_zero g h] at e1
  have er2 : (stM (eraA m) m 0).er = 6 := by
    rw [e1.1]; unfold er1; rw [if_neg (by omega)]; exact h
  have p1 : eraP (stM (eraA m) m 0) 1 = stM (eraA m) m 0 := by
    unfold eraP er1
    rw [if_neg (by omega)]
  have e2 := stM_er (a := eraA m) g1 (s := 1) (by omega) (by omega)
  rw [p1, eraX_zero g1 er2] at e2
  unfold coM
  rw [if_pos g, e2.2, e1.2]
  exact keepL_two k.e
theorem coN_six {m : Mm} (g : goodM m = true) : (coN m 6).er = 6 := by
  rcases coN_er g 6 with h | h
  · obtain ⟨_, _, _, t1, t2, t3, t4, t5⟩ := goodM_of (coN_good g 6)
    have := t5.2
    omega
  · exact h
/-! A byte turned. -/
theorem sumY_set {xs : List Int} {i n : Nat} (x : Int) (hi : i < xs.length) : sumY (xs.set i x) n = sumY xs n + (if i < n then x - xs.getD i 0 else 0) := by
  induction n with
  | zero => simp [sumY]
  | succ n ih =>
    simp only [sumY]
    rw [ih]
    by_cases h : i = n
    · subst h
      rw [get_set_same _ _ _ hi, if_neg (by omega), if_pos (by omega)]
      omega
    · rw [get_set_other _ _ h]
      by_cases h2 : i < n
      · rw [if_pos h2, if_pos (by omega)]; omega
      · rw [if_neg h2, if_neg (by omega)]; omega
theorem turned {bs : List Int} (hb : Byts bs) (hl : bs.length = 15) (h0 : unE bs = 0) {i : Nat} (hi : i < 15) {x : Int} (hx : 0 ≤ x ∧ x ≤ 255) (hne : x ≠ bs.getD i 0) : unE (bs.set i x) ≠ 0 := by
  have hc : chk (bs.take 14) = bs.getD 14 0 := by
    unfold unE at h0
    rw [if_neg (by omega)] at h0
    by_cases h : chk (bs.take 14) = bs.getD 14 0
    · exact h
    · rw [if_pos h] at h0; cases h0
  have hbi := hb i
  have hne2 : chk ((bs.set i x).take 14) ≠ (bs.set i x).getD 14 0 := by
    unfold chk at *
    rw [List.length_take, hl] at hc
    rw [List.length_take, List.length_set, hl]
    by_cases h : i = 14
    · subst h
      rw [get_set_same _ _ _ (by omega), List.take_set_of_le (by omega)]
      omega
    · rw [get_set_other _ _ h, List.take_set, sumY_set _ (by rw [List.length_take, hl]; omega)]
      have h3 : (bs.take 14).getD i 0 = bs.getD i 0 := by
        rw [List.getD_eq_getElem?_getD, List.getElem?_take, if_pos (by omega), ← List.getD_eq_getElem?_getD]
      rw [h3, show min 14 15 = 14 from rfl, if_pos (by omega)]
      rw [show min 14 15 = 14 from rfl] at hc
      omega
  unfold unE
  rw [if_neg (by rw [List.length_set]; omega), if_pos hne2]
  omega
theorem byts_set {bs : List Int} (hb : Byts bs) {i : Nat} {x : Int} (hx : 0 ≤ x ∧ x ≤ 255) : Byts (bs.set i x) := fun j => by
  by_cases h : i = j
  · subst h
    by_cases hi : i < bs.length
    · rw [get_set_same _ _ _ hi]; exact hx
    · rw [List.getD_eq_getElem?_getD, List.getElem?_eq_none (by rw [List.length_set]; omega)]
      simp
  · rw [get_set_other _ _ h]; exact hb j
end Go.Proofs.YthoiikkjjaldnaaDoor

/- The law TopFades: the walk. -/
namespace Go.Proofs.YthoiikkjjaldnaaDoor
set_option linter.unusedVariables false
set_option linter.unusedSimpArgs false
set_option maxRecDepth 100000
open Go.RowKit

/-- The boxes of a run: the answers', both ends'. -/
structure Te (w W : World) (gE gD : Nat) (s : En) (m : Mm) : Prop where
  T : Tp w W gE gD s m
  R : EB W w.heap.size zeroEn
  Q : MB W (w.heap.size + 1) zeroM
  l : w.heap.size + 2 ≤ gE
section
variable {w W W' : World} {gE gD : Nat} {s s' : En} {m m' : Mm}
theorem Te.below (h : Te w W gE gD s m) (hb : Below W.heap.size W W') : Te w W' gE gD s m := ⟨h.T.below hb, Blk.below' h.R hb, Blk.below' h.Q hb, h.l⟩
theorem Te.setE (h : Te w W gE gD s m) : Te w (W.setRow gE s'.ag) gE gD s' m := ⟨h.T.setE, Blk.rowFar h.R (by have := h.l; omega), Blk.rowFar h.Q (by have := h.l; omega), h.l⟩
theorem Te.setD (h : Te w W gE gD s m) : Te w (W.setRow gD m'.ag) gE gD s m' := ⟨h.T.setD, Blk.rowFar h.R (by have := h.l; have := h.T.l1; omega), Blk.rowFar h.Q (by have := h.l; have := h.T.l1; omega), h.l⟩
theorem Te.lt (h : Te w W gE gD s m) : gD < W.heap.size := h.T.lt
theorem Te.far (h : Te w W gE gD s m) {g : Nat} (hg : gD < g) (vs : List Value) (o : Nat) : Te w (W.setCells g o vs) gE gD s m := by
  have h1 := h.l
  have h2 := h.T.l1
  exact ⟨⟨blk_sc (by omega) _ _ _ h.T.E, blk_sc (by omega) _ _ _ h.T.D, below_sc (by omega) _ _ _ h.T.bel, h.T.l0, h.T.l1⟩, blk_sc (by omega) _ _ _ h.R, blk_sc (by omega) _ _ _ h.Q, h.l⟩
theorem Te.farC (h : Te w W gE gD s m) {g : Nat} (hg : gD < g) (o : Nat) (v : Value) : Te w (W.setCell ⟨g, o, none⟩ v) gE gD s m := by
  have h1 := h.l
  have h2 := h.T.l1
  exact ⟨⟨Blk.far h.T.E (by show gE ≠ g; omega) _, Blk.far h.T.D (by show gD ≠ g; omega) _, h.T.bel.setCell (by show w.heap.size ≤ g; omega) _, h.T.l0, h.T.l1⟩, Blk.far h.R (by show w.heap.size ≠ g; omega) _, Blk.far h.Q (by show w.heap.size + 1 ≠ g; omega) _, h.l⟩
end
/-- And this frame's. -/
structure Sf (w W : World) (gE gD gT : Nat) (s : En) (m : Mm) (t : Tk) : Prop where
  T : Te w W gE gD s m
  K : Blk W gT 38 t.cs.toArray
  l : gD < gT
  r : Rs W w.heap.size t.A t.xs
section
variable {w W W' : World} {gE gD gT : Nat} {s s' : En} {m m' : Mm} {t : Tk}
theorem Sf.lt (h : Sf w W gE gD gT s m t) : gT < W.heap.size := Blk.lt h.K
theorem Sf.below (h : Sf w W gE gD gT s m t) (hb : Below W.heap.size W W') : Sf w W' gE gD gT s m t := ⟨h.T.below hb, Blk.below' h.K hb, h.l, h.r.below (hb.mono h.T.T.bel.size)⟩
theorem Sf.far {g : Nat} (h : Sf w W gE gD gT s m t) (hg : gT + 1 ≤ g) (vs : List Value) (o : Nat) : Sf w (W.setCells g o vs) gE gD gT s m t := by
  have h1 := h.T.l
  have h2 := h.T.T.l1
  have h3 := h.l
  exact ⟨h.T.far (by omega) _ _, blk_sc (by omega) _ _ _ h.K, h.l, h.r.below (below_sc (by omega) _ _ _ (Below.refl _ _))⟩
theorem Sf.farC {g : Nat} (h : Sf w W gE gD gT s m t) (hg : gT + 1 ≤ g) (o : Nat) (v : Value) : Sf w (W.setCell ⟨g, o, none⟩ v) gE gD gT s m t := by
  have h1 := h.T.l
  have h2 := h.T.T.l1
  have h3 := h.l
  exact ⟨h.T.farC (by omega) _ _, Blk.far h.K (by show gT ≠ g; omega) _, h.l, h.r.below ((Below.refl w.heap.size W).setCell (by show w.heap.size ≤ g; omega) _)⟩
theorem Sf.setE (h : Sf w W gE gD gT s m t) : Sf w (W.setRow gE s'.ag) gE gD gT s' m t := by
  have h1 := h.T.l
  have h2 := h.T.T.l1
  have h3 := h.l
  exact ⟨h.T.setE, Blk.rowFar h.K (by omega), h.l, h.r.below (below_setRow (Below.refl w.heap.size W) (by omega) _)⟩
end
theorem results_em3 {fn : Func} {p q r : Tmp} (h : fn.results = #[.cell p 32, .cell q 30, .tmp r]) (tmps : Array Value) (w : World) (g g2 : Nat) (e : En) (m : Mm)
    (hp : tmps.getD p undef = .pointer (some ⟨g, 0, none⟩)) (hg : EB w g e) (k : e.ok) (hq : tmps.getD q undef = .pointer (some ⟨g2, 0, none⟩)) (hg2 : MB w g2 m) (k2 : m.ok) :
    (results fn tmps).run Tryd.prog w = .ok (.tuple #[.agg e.ag, .agg m.ag, tmps.getD r undef]) w := by
  have hp' : tmps[p]?.getD undef = .pointer (some ⟨g, 0, none⟩) := by simpa using hp
  have hq' : tmps[q]?.getD undef = .pointer (some ⟨g2, 0, none⟩) := by simpa using hq
  have hr := run_loadVar_row (P := Tryd.prog) w g 32 32 e.ag (0, 0) _ hg Tryd.underlying32 rfl (by rw [sizeE, e.size k])
  have hr2 := run_loadVar_row (P := Tryd.prog) w g2 30 30 m.ag (0, 0) _ hg2 Tryd.underlying30 rfl (by rw [sizeM, m.size k2])
  simp [results, h, hp', hq', asAddr, hr, hr2]
/-- And the bytes. -/
structure Sg (w W : World) (gE gD gT : Nat) (s : En) (m : Mm) (t : Tk) (gb c : Nat) (bs : List Int) : Prop where
  F : Sf w W gE gD gT s m t
  O : OwnB W (gT + 1) (some ⟨gb, 0, none⟩) c bs
theorem Sg.below {w W W' : World} {gE gD gT : Nat} {s : En} {m : Mm} {t : Tk} {gb c : Nat} {bs : List Int} (h : Sg w W gE gD gT s m t gb c bs) (hb : Below W.heap.size W W') : Sg w W' gE gD gT s m t gb c bs := ⟨h.F.below hb, h.O.below hb⟩
theorem ownB_set {w : World} {base c g : Nat} {xs : List Int} (h : OwnB w base (some ⟨g, 0, none⟩) c xs) (k : Nat) (x : Int) : OwnB (w.setCell ⟨g, k, none⟩ (.int .u8 x)) base (some ⟨g, 0, none⟩) c (xs.set k x) := by
  have h1 := World.ownsRow.stored (g := g) (cap := c) h k (.int .u8 x)
  unfold OwnB
  rw [List.length_set]
  have e : bts (xs.set k x) = (bts xs).set k (.int .u8 x) := by simp [bts, List.map_set]
  rw [e]; exact h1.1
theorem ownB_cell {w : World} {base c g : Nat} {xs : List Int} (h : OwnB w base (some ⟨g, 0, none⟩) c xs) (k : Nat) (hk : k < xs.length) : w.cell? ⟨g, k, none⟩ = some (.int .u8 (xs.getD k 0)) := by
  have h1 := World.ownsRow.cellAt (g := g) (cap := c) h k (by omega)
  rw [h1]; exact bts_get xs k hk
theorem ownB_frozen {w : World} {base c g : Nat} {xs : List Int} (h : OwnB w base (some ⟨g, 0, none⟩) c xs) (k : Nat) : w.frozen? ⟨g, k, none⟩ = false := World.ownsRow.frozenAt h k
theorem wrap8 {z : Int} (h0 : 0 ≤ z) (h1 : z ≤ 255) : IntKind.u8.wrap z = z := by
  simp only [IntKind.wrap, IntKind.signed, IntKind.bits]
  simp
  omega
theorem xor8 {a c : Nat} (ha : a < 256) (hc : c < 256) : bits BinOp.xor IntKind.u8 (a : Int) (c : Int) = ((a ^^^ c : Nat) : Int) := by
  have hlt : (BitVec.ofInt 8 (a : Int) ^^^ BitVec.ofInt 8 (c : Int)).toNat = a ^^^ c := by
    rw [BitVec.ofInt_natCast, BitVec.ofInt_natCast, BitVec.toNat_xor, BitVec.toNat_ofNat, BitVec.toNat_ofNat, Nat.mod_eq_of_lt (by omega), Nat.mod_eq_of_lt (by omega)]
  have h2 : a ^^^ c < 2 ^ 8 := Nat.xor_lt_two_pow (by omega) (by omega)
  show IntKind.u8.wrap ((BitVec.ofInt 8 (a : Int) ^^^ BitVec.ofInt 8 (c : Int)).toNat : Int) = _
  rw [hlt, wrap8 (by omega) (by omega)]
/-- A byte with something turned in it is another byte. -/
theorem turn_byte {b y : Int} (hb : 0 ≤ b ∧ b ≤ 255) (hy : 0 ≤ y) (hy2 : y < 255) : (0 ≤ bits BinOp.xor IntKind.u8 b (1 + y) ∧ bits BinOp.xor IntKind.u8 b (1 + y) ≤ 255) ∧ bits BinOp.xor IntKind.u8 b (1 + y) ≠ b := by
  obtain ⟨a, rfl⟩ := Int.eq_ofNat_of_zero_le hb.1
  obtain ⟨c, hc⟩ := Int.eq_ofNat_of_zero_le (show 0 ≤ 1 + y by omega)
  rw [hc]
  have ha : a < 256 := by omega
  have hc2 : c < 256 := by omega
  have h2 : a ^^^ c < 2 ^ 8 := Nat.xor_lt_two_pow (by omega) (by omega)
  rw [show bits BinOp.xor IntKind.u8 ((a : Nat) : Int) ((c : Nat) : Int) = ((a ^^^ c : Nat) : Int) from xor8 ha hc2]
  refine ⟨by omega, fun h => ?_⟩
  have h3 : a ^^^ c = a := by exact_mod_cast h
  have h4 : a ^^^ (a ^^^ c) = c := by rw [← Nat.xor_assoc, Nat.xor_self, Nat.zero_xor]
  rw [h3, Nat.xor_self] at h4
  omega
theorem ownB_at0 {w : World} {base c : Nat} {A : Option Addr} {xs : List Int} (h : OwnB w base A c xs) (h0 : 0 < xs.length) : ∃ g, A = some ⟨g, 0, none⟩ := by
  rcases h.2 with hn | ⟨g, cap, cur, hv, _⟩
  · omega
  · injection hv with hA
    exact ⟨g, hA⟩

set_option maxHeartbeats 4000000 in
theorem ends_any (w : World) (T1 : TabA w 2 rootsL) (T2 : TabA w 0 gainsL) (T3 : TabA w 1 widthL) (A : Option Addr) (n c : Nat) (hc : n ≤ c) (hr : RT w w.heap.size A n) :
    Calls Tryd.prog 15 #[.slice A n c] w (fun e w' => ∃ (s : En) (m : Mm), s.fit ∧ m.ok ∧ goodM m = true ∧ e = .returned (.tuple #[.agg s.ag, .agg m.ag, .bool true]) ∧ Below w.heap.size w w') := by
  have hR := results_em3 (fn := Tryd.f15) (p := 2) (q := 3) (r := 4) rfl
  have KB := hid (fun W => begin_any W)
  have KF := hid (fun W => fresh_any W)
  have KT := hid (fun W => talks_any A c n W hc)
  have HR := hid (hr.less (Nat.min_le_left n 12))
  have TT := hid (⟨T1, T2, T3⟩ : TabA w 2 rootsL ∧ TabA w 0 gainsL ∧ TabA w 1 widthL)
  have M12 : min n 12 ≤ 12 := Nat.min_le_right _ _
  generalize min n 12 = N at *
  clear hr T1 T2 T3 hc
  have Z0 := newzeroE w
  have Z1 := newzero (w.alloc (.cells Tryd.zeroCells32 32))
  simp only [World.size_alloc] at Z1
  have R0 := hid (Blk.alloc Z0 (.cells Tryd.zeroCells30 30))
  have Q0 := hid Z1
  have B0 := hid (((Below.refl w.heap.size w).alloc (Nat.le_refl _) (.cells Tryd.zeroCells32 32)).alloc (by simp) (.cells Tryd.zeroCells30 30))
  obtain ⟨V0, hV0⟩ : ∃ V0, V0 = ((w.alloc (.cells Tryd.zeroCells32 32)).alloc (.cells Tryd.zeroCells30 30)) := ⟨_, rfl⟩
  rw [← hV0] at R0 Q0 B0
  have HV0 := hid hV0.symm
  clear hV0 Z0 Z1
  go_enter Tryd.func15, Tryd.ntmps15
  go_wp2_with (rw [HV0.out]; clear HV0)
  refine (KB.out _).mono ?_
  rintro e w1 ⟨rfl, hB1⟩
  go_wp2_with fail
  refine (KF.out _).mono ?_
  rintro e w2 ⟨rfl, hB2⟩
  have R2 := hid (Blk.below' (Blk.below' R0.out hB1) hB2)
  have Q2 := hid (Blk.below' (Blk.below' Q0.out hB1) hB2)
  have B2 := hid ((B0.out.trans (hB1.mono B0.out.size)).trans (hB2.mono (B0.out.trans (hB1.mono B0.out.size)).size))
  clear hB1 hB2 KB KF R0 Q0 B0
  have LQ := hid (show w.heap.size + 2 ≤ w2.heap.size from Blk.lt Q2.out)
  have Z0 := newzeroE w2
  have Z1 := newzero (w2.alloc (.cells Tryd.zeroCells32 32))
  simp only [World.size_alloc] at Z1
  have T3 := hid (show Te w ((w2.alloc (.cells Tryd.zeroCells32 32)).alloc (.cells Tryd.zeroCells30 30)) w2.heap.size (w2.heap.size + 1) zeroEn zeroM from
    ⟨⟨Blk.alloc Z0 _, Z1, (B2.out.alloc B2.out.size _).alloc (by have := B2.out.size; simp; omega) _, B2.out.size, by omega⟩, Blk.alloc (Blk.alloc R2.out _) _, Blk.alloc (Blk.alloc Q2.out _) _, LQ.out⟩)
  have T4 := hid (T3.out.setE (s' := enB))
  have T5 := hid (T4.out.setD (m' := freshM))
  obtain ⟨V3, hV3⟩ : ∃ V3, V3 = ((w2.alloc (.cells Tryd.zeroCells32 32)).alloc (.cells Tryd.zeroCells30 30)) := ⟨_, rfl⟩
  rw [← hV3] at T3 T4 T5
  obtain ⟨V5, hV5⟩ : ∃ V5, V5 = (V3.setRow w2.heap.size enB.ag).setRow (w2.heap.size + 1) freshM.ag := ⟨_, rfl⟩
  rw [← hV5] at T5
  have HV3 := hid hV3.symm
  have HV5 := hid hV5.symm
  clear hV3 hV5 Z0 Z1 R2 Q2 B2 LQ
  go_wp2_with (first
    | (rw [HV3.out]; clear HV3)
    | (refine wpList_storeE rfl (.tmp 5) (.tmp 22) rfl _ zeroEn enB rfl rfl T3.out.T.E zeroEn_ok enB_fit.k ?_)
    | (refine wpList_storeM rfl (.tmp 6) (.tmp 23) rfl _ zeroM freshM rfl rfl T4.out.T.D zeroM_ok freshM_ok ?_; rw [HV5.out]; clear HV5)
    | (go_at_call 9; (with_reducible refine (KT.out _).mono ?_); rintro e w' ⟨rfl, rfl⟩))
  obtain ⟨gE, hgE⟩ : ∃ gE, gE = w2.heap.size := ⟨_, rfl⟩
  obtain ⟨gD, hgD⟩ : ∃ gD, gD = gE + 1 := ⟨_, rfl⟩
  rw [← hgE, ← hgD] at T5 ⊢
  clear hgE hgD T3 T4
  go_loopw [27] (fun iv wr => ∃ (k : Nat) (s : En) (m : Mm), k ≤ N ∧ iv = .int .i64 k ∧ Hid s.fit ∧ Hid m.ok ∧ Hid (goodM m = true) ∧ Hid (Te w wr gE gD s m)) (fun iv _ => N - (intOf iv).toNat)
  case atStart => exact ⟨0, enB, freshM, by omega, rfl, hid enB_fit, hid freshM_ok, hid fresh_good, T5⟩
  case round =>
    clear T5
    obtain ⟨k, s, m, hk, rfl, HF, HMK, HMG, HT⟩ := hrel
    by_cases hlt : k < N
    · obtain ⟨ad, t, rfl, ht⟩ := HR.out k hlt
      have HA := hid (ht.below HT.out.T.bel)
      clear ht
      have b1 : decide ((k : Int) < N) = true := by simp; omega
      go_upto_region 5 with (first
        | (refine wpList_loadG rfl 38 (.tmp 29) rfl (ad.add (k * 5)) rfl t.cs _ HA.out.s Tryd.underlying38 rfl sizeTalk ?_)
        | (refine wpList_store_row rfl 38 (.tmp 8) (.tmp 30) rfl _ t.cs.toArray rfl rfl 38 zeroTk.cs.toArray (Blk.new wr 38 zeroTk.cs.toArray) sizeTalk rfl t.one ?_
           have BB := below_stored wr (.cells zeroTk.cs.toArray 38) t.cs.toArray
           obtain ⟨V6, hV⟩ : ∃ V6, V6 = (wr.alloc (.cells zeroTk.cs.toArray 38)).setRow wr.heap.size t.cs.toArray := ⟨_, rfl⟩
           have S6 := hid (show Sf w V6 gE gD wr.heap.size s m t from by rw [hV]; exact ⟨HT.out.below BB, setRow_heap _ _ _ _ _ _ (Blk.new wr 38 zeroTk.cs.toArray), HT.out.lt, HA.out.r.below (BB.mono HT.out.T.bel.size)⟩)
           rw [zeroTk_eq] at hV
           rw [← hV]
           clear hV BB))
      obtain ⟨gT, hgT⟩ : ∃ gT, gT = wr.heap.size := ⟨_, rfl⟩
      rw [put_none]
      rw [← hgT] at S6 ⊢
      clear hgT HT
      obtain ⟨fr, hfr⟩ : ∃ fr, fr = frL t.xs := ⟨_, rfl⟩
      have FL : fr.length = 80 := by rw [hfr]; exact frL_len _
      have FI : all16 fr = true := by rw [hfr]; exact frL_in _
      have KFm := hid (fun W (h : Sf w W gE gD gT s m t) => show Calls Tryd.prog 11 #[.slice t.A t.xs.length t.c] W (fun e w' => ∃ A2 c2, e = .returned (.slice A2 80 c2) ∧ Own w' W.heap.size A2 c2 fr ∧ Below W.heap.size W w') from by
        rw [hfr]; exact topframe_any t.A t.c t.xs.length t.xs W (h.r.more h.T.T.bel.size) rfl HA.out.l)
      have YS := en_de HF.out FL FI t.q HMG.out
      have UE0 : unE (enBs s fr t.q) = 0 := by rw [enBs_yes HF.out FL FI t.q]; exact (pk_round (enPk_to _ _ _) (enPk_len _ _ _)).1
      have F2 := enE_fit HF.out FL FI t.q
      have B15 := hid (enBs_len HF.out FL FI t.q)
      have Y80 := hid (enY_len HF.out FL FI t.q)
      have BYT := hid (show Byts (enBs s fr t.q) from by rw [enBs_yes HF.out FL FI t.q]; exact pk_byts _)
      have MK := frM_ok HMK.out (enPk_to s fr t.q) (enPk_len s fr t.q)
      have MG := frM_good HMG.out (enPk_to s fr t.q) (enPk_len s fr t.q)
      have YL := frO_len m (enPk s fr t.q)
      have KEn := hid (fun W A2 c2 (h : Rs W W.heap.size A2 fr) (hS : Sf w W gE gD gT s m t) => show Calls Tryd.prog 10 #[.agg s.cs.toArray, .slice A2 80 c2, .bool t.q] W (fun e w' => ∃ A3 c3 A4 c4, e = .returned (.tuple #[.agg (enE s fr t.q).ag, .slice A3 15 c3, .slice A4 80 c4, .int .i64 0]) ∧ OwnB w' W.heap.size A3 c3 (enBs s fr t.q) ∧ Own w' W.heap.size A4 c4 (enY s fr t.q) ∧ Below W.heap.size W w') from by
        have h1 := encode_any s HF.out.k A2 c2 80 fr t.q W (TT.out.1.below hS.T.T.bel) (TT.out.2.1.below hS.T.T.bel) (TT.out.2.2.below hS.T.T.bel) h FL (by omega)
        unfold EncOut at h1
        rw [B15.out, Y80.out, enc_ok HF.out FL FI] at h1
        exact h1)
      obtain ⟨s2, hs2⟩ : ∃ s2, s2 = enE s fr t.q := ⟨_, rfl⟩
      obtain ⟨bs, hbs⟩ : ∃ bs, bs = enBs s fr t.q := ⟨_, rfl⟩
      generalize enY s fr t.q = ys at *
      obtain ⟨md, hmd⟩ : ∃ md, md = frM m (enPk s fr t.q) := ⟨_, rfl⟩
      obtain ⟨yd, hyd⟩ : ∃ yd, yd = frO m (enPk s fr t.q) := ⟨_, rfl⟩
      rw [← hmd, ← hyd] at YS
      rw [← hmd] at MK MG
      rw [← hyd] at YL
      rw [← hs2] at F2
      rw [← hs2, ← hbs] at KEn
      rw [← hbs] at B15 BYT YS UE0
      have F2 := hid F2
      have K2 := hid F2.out.k
      have YS := hid YS
      have UE0 := hid UE0
      have MK := hid MK
      have MG := hid MG
      have YL := hid YL
      clear hs2 hbs hmd hyd hfr FL FI
      go_cut [9, 10, 11, 12] (fun s7 s8 s9 s10 wx => ∃ (gx : Nat) (A3 : Option Addr) (c3 : Nat) (A4 : Option Addr) (c4 : Nat), s7 = .pointer (some ⟨gx, 0, none⟩) ∧ s8 = .slice A3 15 c3 ∧ s9 = .slice A4 80 c4 ∧ s10 = .int .i64 0 ∧ Hid (gT + 1 ≤ gx) ∧ Hid (Sf w wx gE gD gT s m t) ∧ Hid (EB wx gx s2) ∧ Hid (OwnB wx (gT + 1) A3 c3 bs) ∧ Hid (∀ a, A3 = some a → gT + 1 ≤ a.block ∧ a.block ≠ gx))
      case first =>
        -- GEN ends
        refine wp_region_held (S := fun W => Sf w W gE gD gT s m t) (by kernel_rfl) ?_
        have L1 := hid (Sf.below S6.out ((Below.refl _ _).drew))
        change wpAnyH _ _ _ _ _ _ _ _ (World.drew _)
        obtain ⟨W1, hW1⟩ : ∃ W1, W1 = World.drew V6 := ⟨_, rfl⟩
        rw [← hW1] at L1 ⊢
        clear hW1
        refine wpAnyH_take (i := 0) (v := .agg s.cs.toArray) rfl (by kernel_rfl) (by kernel_rfl) (by kernel_rfl) (fun _ _ _ h => h) (yieldsIf_load_mid (by rfl) 32 (.tmp 5) rfl gE 0 rfl s.cs _ (fun W hW => EB.whole hW.T.T.E) Tryd.underlying32 rfl (by rw [sizeE, s.len HF.out.k])) L1.out ?_
        refine wpAnyH_take (i := 1) (v := .pointer (some ⟨gT, 0, none⟩)) rfl (by kernel_rfl) (by kernel_rfl) (by kernel_rfl) (fun _ _ _ h => h) (.inl ⟨by rfl, fun W hW => by (first | rfl | go_simp)⟩) L1.out ?_
        refine wpAnyH_take (i := 2) (v := .slice t.A t.xs.length t.c) rfl (by kernel_rfl) (by kernel_rfl) (by kernel_rfl) (fun _ _ _ h => h) (.inl ⟨by rfl, fun W hW => by have h := (Tk.at_ hW.K).1; go_simp⟩) L1.out ?_
        refine wpAnyH_take (i := 4) (v := .pointer (some ⟨gT, 1, none⟩)) rfl (by kernel_rfl) (by kernel_rfl) (by kernel_rfl) (fun _ _ _ h => h) (.inl ⟨by rfl, fun W hW => by (first | rfl | go_simp)⟩) L1.out ?_
        refine wpAnyH_take (i := 5) (v := .bool t.q) rfl (by kernel_rfl) (by kernel_rfl) (by kernel_rfl) (fun _ _ _ h => h) (.inl ⟨by rfl, fun W hW => by have h := (Tk.at_ hW.K).2.1; go_simp⟩) L1.out ?_
        refine wpAnyH_ready (rs := [3, 12]) (by kernel_rfl) (by simp) (AllReadyH.cons rfl (fun K hK => ?_) (AllReadyH.cons rfl (fun K hK => ?_) AllReadyH.nil))
        ·
          go_simp
          with_reducible refine (KFm.out W1 L1.out).mono ?_
          rintro e W2 ⟨A2, c2, rfl, hO, hB⟩
          have L2 := hid (Sf.below L1.out hB)
          have Q2 := hid hB
          have O2 := hid hO.reads
          clear hO hB
          go_simp
          refine hK.out _ _ L2.out (fun _ => ?_)
          clear hK K
          refine wpAnyH_ready (rs := [6, 12]) (by kernel_rfl) (by simp) (AllReadyH.cons rfl (fun K hK => ?_) (AllReadyH.cons rfl (fun K hK => ?_) AllReadyH.nil))
          ·
            go_simp
            with_reducible refine (KEn.out W2 _ _ O2.out L2.out).mono ?_
            rintro e W3 ⟨A3, c3, A4, c4, rfl, hP, hR, hB⟩
            have HB := hid (show gT + 1 ≤ W2.heap.size from L2.out.lt)
            have L3 := hid (Sf.below L2.out hB)
            have Q3 := hid hB
            have O3 := hid ((O2.out.below Q3.out).more Q3.out.size)
            have P3 := hid hP
            have R3 := hid hR
            clear hP hR hB
            go_simp
            refine hK.out _ _ L3.out (fun _ => ?_)
            clear hK K
            refine wpAnyH_take (i := 7) (v := .tuple #[.agg s2.ag, .slice A3 15 c3, .slice A4 80 c4, .int .i64 0]) rfl (by kernel_rfl) (by kernel_rfl) (by kernel_rfl) (fun _ _ _ h => h) (.inl ⟨by rfl, fun W hW => by (first | rfl | go_simp)⟩) L3.out ?_
            refine wpAnyH_take (i := 8) (v := .agg s2.ag) rfl (by kernel_rfl) (by kernel_rfl) (by kernel_rfl) (fun _ _ _ h => h) (.inl ⟨by rfl, fun W hW => by (first | rfl | go_simp)⟩) L3.out ?_
            refine wpAnyH_take (i := 9) (v := .slice A3 15 c3) rfl (by kernel_rfl) (by kernel_rfl) (by kernel_rfl) (fun _ _ _ h => h) (.inl ⟨by rfl, fun W hW => by (first | rfl | go_simp)⟩) L3.out ?_
            refine wpAnyH_take (i := 10) (v := .slice A4 80 c4) rfl (by kernel_rfl) (by kernel_rfl) (by kernel_rfl) (fun _ _ _ h => h) (.inl ⟨by rfl, fun W hW => by (first | rfl | go_simp)⟩) L3.out ?_
            refine wpAnyH_take (i := 11) (v := .int .i64 0) rfl (by kernel_rfl) (by kernel_rfl) (by kernel_rfl) (fun _ _ _ h => h) (.inl ⟨by rfl, fun W hW => by (first | rfl | go_simp)⟩) L3.out ?_
            refine wpAnyH_ready (rs := [12]) (by kernel_rfl) (by simp) (AllReadyH.cons rfl (fun K hK => ?_) AllReadyH.nil)
            go_simp
            have L4 := hid (Sf.below L3.out ((Below.refl _ _).alloc (Nat.le_refl _) (.cells Tryd.zeroCells32 32)))
            have Z4 := hid (newzeroE W3)
            obtain ⟨W4, hW4⟩ : ∃ W4, W4 = W3.alloc (.cells Tryd.zeroCells32 32) := ⟨_, rfl⟩
            have Q4 := hid (show Below W3.heap.size W3 W4 from by rw [hW4]; exact (Below.refl _ _).alloc (Nat.le_refl _) _)
            rw [← hW4] at L4 Z4 ⊢
            clear hW4
            obtain ⟨gx, hgx⟩ : ∃ gx, gx = W3.heap.size := ⟨_, rfl⟩
            have GX := hid (show gT + 1 ≤ gx from by rw [hgx]; exact L3.out.lt)
            have GE := hid hgx
            rw [← hgx] at Z4 ⊢
            clear hgx
            have O4 := hid ((O3.out.below Q4.out).more Q4.out.size)
            have P4 := hid (P3.out.below Q4.out)
            have R4 := hid (R3.out.below Q4.out)
            refine hK.out _ _ L4.out (fun _ => ?_)
            clear hK K
            refine wpAnyH_ready (rs := [13]) (by kernel_rfl) (by simp) (AllReadyH.cons rfl (fun K hK => ?_) AllReadyH.nil)
            rw [if_pos (by rfl)]
            simp only [Act.put, List.setIfInBounds_toArray, List.set_cons_zero, List.set_cons_succ, List.getElem_toArray, List.getElem_cons_succ, List.getElem_cons_zero]
            refine wp_store_mid 32 (.tmp 9) (.tmp 39) rfl gx 0 s2.ag rfl rfl (by rw [En.size _ K2.out]; exact EB.there Z4.out zeroEn_ok) (by rw [En.size _ K2.out]; exact sizeE) (En.one _) ?_
            have LF := hid (Sf.far L4.out GX.out (s2.ag.toList) 0)
            have EF := hid (EB.setAll Z4.out zeroEn_ok K2.out)
            have PF := hid (P3.out.below (below_sc (b := gx) (by rw [GE.out]; exact Nat.le_refl _) s2.ag.toList 0 _ Q4.out))
            have RF := hid (R3.out.below (below_sc (b := gx) (by rw [GE.out]; exact Nat.le_refl _) s2.ag.toList 0 _ Q4.out))
            have NB := hid (fun a (ha : A3 = some a) => show gT + 1 ≤ a.block ∧ a.block ≠ gx from by have h1 := P3.out.lt a ha; have h2 := GE.out; have h3 := HB.out; omega)
            obtain ⟨WF, hWF⟩ : ∃ WF, WF = W4.setCells gx 0 s2.ag.toList := ⟨_, rfl⟩
            have EF := hid (show EB (W4.setCells gx 0 s2.ag.toList) gx s2 from EF.out)
            rw [← hWF] at LF EF PF RF ⊢
            clear hWF
            refine hK.out _ _ LF.out (fun _ => ?_)
            clear hK K
            refine wpAnyH_take (i := 14) (v := .slice A3 15 c3) rfl (by kernel_rfl) (by kernel_rfl) (by kernel_rfl) (fun _ _ _ h => h) (.inl ⟨by rfl, fun W hW => by (first | rfl | go_simp)⟩) LF.out ?_
            refine wpAnyH_take (i := 15) (v := .slice A4 80 c4) rfl (by kernel_rfl) (by kernel_rfl) (by kernel_rfl) (fun _ _ _ h => h) (.inl ⟨by rfl, fun W hW => by (first | rfl | go_simp)⟩) LF.out ?_
            refine wpAnyH_take (i := 16) (v := .int .i64 0) rfl (by kernel_rfl) (by kernel_rfl) (by kernel_rfl) (fun _ _ _ h => h) (.inl ⟨by rfl, fun W hW => by (first | rfl | go_simp)⟩) LF.out ?_
            refine wpAnyH_done (by kernel_rfl) ?_ _
            go_wp2_with fail
            go_meet
            exact ⟨gx, A3, c3, A4, c4, rfl, rfl, rfl, rfl, GX, LF, EF, hid (PF.out.more HB.out), NB⟩
          ·
            go_simp
            have L3 := hid (Sf.below L2.out ((Below.refl _ _).alloc (Nat.le_refl _) (.cells Tryd.zeroCells32 32)))
            have Z3 := hid (newzeroE W2)
            obtain ⟨W3, hW3⟩ : ∃ W3, W3 = W2.alloc (.cells Tryd.zeroCells32 32) := ⟨_, rfl⟩
            have Q3 := hid (show Below W2.heap.size W2 W3 from by rw [hW3]; exact (Below.refl _ _).alloc (Nat.le_refl _) _)
            rw [← hW3] at L3 Z3 ⊢
            clear hW3
            obtain ⟨gx, hgx⟩ : ∃ gx, gx = W2.heap.size := ⟨_, rfl⟩
            have GX := hid (show gT + 1 ≤ gx from by rw [hgx]; exact L2.out.lt)
            have GE := hid hgx
            rw [← hgx] at Z3 ⊢
            clear hgx
            have O3 := hid ((O2.out.below Q3.out).more Q3.out.size)
            refine hK.out _ _ L3.out (fun _ => ?_)
            clear hK K
            refine wpAnyH_ready (rs := [6]) (by kernel_rfl) (by simp) (AllReadyH.cons rfl (fun K hK => ?_) AllReadyH.nil)
            go_simp
            with_reducible refine (KEn.out W3 _ _ O3.out L3.out).mono ?_
            rintro e W4 ⟨A3, c3, A4, c4, rfl, hP, hR, hB⟩
            have HB := hid (show gT + 1 ≤ W3.heap.size from L3.out.lt)
            have GB := hid (show gx < W3.heap.size from Blk.lt Z3.out)
            have L4 := hid (Sf.below L3.out hB)
            have Q4 := hid hB
            have O4 := hid ((O3.out.below Q4.out).more Q4.out.size)
            have Z4 := hid (Blk.below' Z3.out Q4.out)
            have P4 := hid hP
            have R4 := hid hR
            clear hP hR hB
            go_simp
            refine hK.out _ _ L4.out (fun _ => ?_)
            clear hK K
            refine wpAnyH_take (i := 7) (v := .tuple #[.agg s2.ag, .slice A3 15 c3, .slice A4 80 c4, .int .i64 0]) rfl (by kernel_rfl) (by kernel_rfl) (by kernel_rfl) (fun _ _ _ h => h) (.inl ⟨by rfl, fun W hW => by (first | rfl | go_simp)⟩) L4.out ?_
            refine wpAnyH_take (i := 8) (v := .agg s2.ag) rfl (by kernel_rfl) (by kernel_rfl) (by kernel_rfl) (fun _ _ _ h => h) (.inl ⟨by rfl, fun W hW => by (first | rfl | go_simp)⟩) L4.out ?_
            refine wpAnyH_take (i := 9) (v := .slice A3 15 c3) rfl (by kernel_rfl) (by kernel_rfl) (by kernel_rfl) (fun _ _ _ h => h) (.inl ⟨by rfl, fun W hW => by (first | rfl | go_simp)⟩) L4.out ?_
            refine wpAnyH_take (i := 10) (v := .slice A4 80 c4) rfl (by kernel_rfl) (by kernel_rfl) (by kernel_rfl) (fun _ _ _ h => h) (.inl ⟨by rfl, fun W hW => by (first | rfl | go_simp)⟩) L4.out ?_
            refine wpAnyH_take (i := 11) (v := .int .i64 0) rfl (by kernel_rfl) (by kernel_rfl) (by kernel_rfl) (fun _ _ _ h => h) (.inl ⟨by rfl, fun W hW => by (first | rfl | go_simp)⟩) L4.out ?_
            refine wpAnyH_ready (rs := [13]) (by kernel_rfl) (by simp) (AllReadyH.cons rfl (fun K hK => ?_) AllReadyH.nil)
            rw [if_pos (by rfl)]
            simp only [Act.put, List.setIfInBounds_toArray, List.set_cons_zero, List.set_cons_succ, List.getElem_toArray, List.getElem_cons_succ, List.getElem_cons_zero]
            refine wp_store_mid 32 (.tmp 9) (.tmp 39) rfl gx 0 s2.ag rfl rfl (by rw [En.size _ K2.out]; exact EB.there Z4.out zeroEn_ok) (by rw [En.size _ K2.out]; exact sizeE) (En.one _) ?_
            have LF := hid (Sf.far L4.out GX.out (s2.ag.toList) 0)
            have EF := hid (EB.setAll Z4.out zeroEn_ok K2.out)
            have PF := hid (ownB_setCs (g := gx) GB.out s2.ag.toList 0 _ P4.out)
            have RF := hid (Own.setCs (g := gx) GB.out s2.ag.toList 0 _ R4.out)
            have NB := hid (fun a (ha : A3 = some a) => show gT + 1 ≤ a.block ∧ a.block ≠ gx from by have h1 := (PF.out.lt a ha).1; have h2 := GB.out; have h3 := HB.out; omega)
            obtain ⟨WF, hWF⟩ : ∃ WF, WF = W4.setCells gx 0 s2.ag.toList := ⟨_, rfl⟩
            have EF := hid (show EB (W4.setCells gx 0 s2.ag.toList) gx s2 from EF.out)
            rw [← hWF] at LF EF PF RF ⊢
            clear hWF
            refine hK.out _ _ LF.out (fun _ => ?_)
            clear hK K
            refine wpAnyH_take (i := 14) (v := .slice A3 15 c3) rfl (by kernel_rfl) (by kernel_rfl) (by kernel_rfl) (fun _ _ _ h => h) (.inl ⟨by rfl, fun W hW => by (first | rfl | go_simp)⟩) LF.out ?_
            refine wpAnyH_take (i := 15) (v := .slice A4 80 c4) rfl (by kernel_rfl) (by kernel_rfl) (by kernel_rfl) (fun _ _ _ h => h) (.inl ⟨by rfl, fun W hW => by (first | rfl | go_simp)⟩) LF.out ?_
            refine wpAnyH_take (i := 16) (v := .int .i64 0) rfl (by kernel_rfl) (by kernel_rfl) (by kernel_rfl) (fun _ _ _ h => h) (.inl ⟨by rfl, fun W hW => by (first | rfl | go_simp)⟩) LF.out ?_
            refine wpAnyH_done (by kernel_rfl) ?_ _
            go_wp2_with fail
            go_meet
            exact ⟨gx, A3, c3, A4, c4, rfl, rfl, rfl, rfl, GX, LF, EF, hid (PF.out.more HB.out), NB⟩
        ·
          go_simp
          have L2 := hid (Sf.below L1.out ((Below.refl _ _).alloc (Nat.le_refl _) (.cells Tryd.zeroCells32 32)))
          have Z2 := hid (newzeroE W1)
          obtain ⟨W2, hW2⟩ : ∃ W2, W2 = W1.alloc (.cells Tryd.zeroCells32 32) := ⟨_, rfl⟩
          have Q2 := hid (show Below W1.heap.size W1 W2 from by rw [hW2]; exact (Below.refl _ _).alloc (Nat.le_refl _) _)
          rw [← hW2] at L2 Z2 ⊢
          clear hW2
          obtain ⟨gx, hgx⟩ : ∃ gx, gx = W1.heap.size := ⟨_, rfl⟩
          have GX := hid (show gT + 1 ≤ gx from by rw [hgx]; exact L1.out.lt)
          have GE := hid hgx
          rw [← hgx] at Z2 ⊢
          clear hgx
          refine hK.out _ _ L2.out (fun _ => ?_)
          clear hK K
          refine wpAnyH_ready (rs := [3]) (by kernel_rfl) (by simp) (AllReadyH.cons rfl (fun K hK => ?_) AllReadyH.nil)
          go_simp
          with_reducible refine (KFm.out W2 L2.out).mono ?_
          rintro e W3 ⟨A2, c2, rfl, hO, hB⟩
          have L3 := hid (Sf.below L2.out hB)
          have Q3 := hid hB
          have Z3 := hid (Blk.below' Z2.out Q3.out)
          have O3 := hid hO.reads
          clear hO hB
          go_simp
          refine hK.out _ _ L3.out (fun _ => ?_)
          clear hK K
          refine wpAnyH_ready (rs := [6]) (by kernel_rfl) (by simp) (AllReadyH.cons rfl (fun K hK => ?_) AllReadyH.nil)
          go_simp
          with_reducible refine (KEn.out W3 _ _ O3.out L3.out).mono ?_
          rintro e W4 ⟨A3, c3, A4, c4, rfl, hP, hR, hB⟩
          have HB := hid (show gT + 1 ≤ W3.heap.size from L3.out.lt)
          have GB := hid (show gx < W3.heap.size from Blk.lt Z3.out)
          have L4 := hid (Sf.below L3.out hB)
          have Q4 := hid hB
          have O4 := hid ((O3.out.below Q4.out).more Q4.out.size)
          have Z4 := hid (Blk.below' Z3.out Q4.out)
          have P4 := hid hP
          have R4 := hid hR
          clear hP hR hB
          go_simp
          refine hK.out _ _ L4.out (fun _ => ?_)
          clear hK K
          refine wpAnyH_take (i := 7) (v := .tuple #[.agg s2.ag, .slice A3 15 c3, .slice A4 80 c4, .int .i64 0]) rfl (by kernel_rfl) (by kernel_rfl) (by kernel_rfl) (fun _ _ _ h => h) (.inl ⟨by rfl, fun W hW => by (first | rfl | go_simp)⟩) L4.out ?_
          refine wpAnyH_take (i := 8) (v := .agg s2.ag) rfl (by kernel_rfl) (by kernel_rfl) (by kernel_rfl) (fun _ _ _ h => h) (.inl ⟨by rfl, fun W hW => by (first | rfl | go_simp)⟩) L4.out ?_
          refine wpAnyH_take (i := 9) (v := .slice A3 15 c3) rfl (by kernel_rfl) (by kernel_rfl) (by kernel_rfl) (fun _ _ _ h => h) (.inl ⟨by rfl, fun W hW => by (first | rfl | go_simp)⟩) L4.out ?_
          refine wpAnyH_take (i := 10) (v := .slice A4 80 c4) rfl (by kernel_rfl) (by kernel_rfl) (by kernel_rfl) (fun _ _ _ h => h) (.inl ⟨by rfl, fun W hW => by (first | rfl | go_simp)⟩) L4.out ?_
          refine wpAnyH_take (i := 11) (v := .int .i64 0) rfl (by kernel_rfl) (by kernel_rfl) (by kernel_rfl) (fun _ _ _ h => h) (.inl ⟨by rfl, fun W hW => by (first | rfl | go_simp)⟩) L4.out ?_
          refine wpAnyH_ready (rs := [13]) (by kernel_rfl) (by simp) (AllReadyH.cons rfl (fun K hK => ?_) AllReadyH.nil)
          rw [if_pos (by rfl)]
          simp only [Act.put, List.setIfInBounds_toArray, List.set_cons_zero, List.set_cons_succ, List.getElem_toArray, List.getElem_cons_succ, List.getElem_cons_zero]
          refine wp_store_mid 32 (.tmp 9) (.tmp 39) rfl gx 0 s2.ag rfl rfl (by rw [En.size _ K2.out]; exact EB.there Z4.out zeroEn_ok) (by rw [En.size _ K2.out]; exact sizeE) (En.one _) ?_
          have LF := hid (Sf.far L4.out GX.out (s2.ag.toList) 0)
          have EF := hid (EB.setAll Z4.out zeroEn_ok K2.out)
          have PF := hid (ownB_setCs (g := gx) GB.out s2.ag.toList 0 _ P4.out)
          have RF := hid (Own.setCs (g := gx) GB.out s2.ag.toList 0 _ R4.out)
          have NB := hid (fun a (ha : A3 = some a) => show gT + 1 ≤ a.block ∧ a.block ≠ gx from by have h1 := (PF.out.lt a ha).1; have h2 := GB.out; have h3 := HB.out; omega)
          obtain ⟨WF, hWF⟩ : ∃ WF, WF = W4.setCells gx 0 s2.ag.toList := ⟨_, rfl⟩
          have EF := hid (show EB (W4.setCells gx 0 s2.ag.toList) gx s2 from EF.out)
          rw [← hWF] at LF EF PF RF ⊢
          clear hWF
          refine hK.out _ _ LF.out (fun _ => ?_)
          clear hK K
          refine wpAnyH_take (i := 14) (v := .slice A3 15 c3) rfl (by kernel_rfl) (by kernel_rfl) (by kernel_rfl) (fun _ _ _ h => h) (.inl ⟨by rfl, fun W hW => by (first | rfl | go_simp)⟩) LF.out ?_
          refine wpAnyH_take (i := 15) (v := .slice A4 80 c4) rfl (by kernel_rfl) (by kernel_rfl) (by kernel_rfl) (fun _ _ _ h => h) (.inl ⟨by rfl, fun W hW => by (first | rfl | go_simp)⟩) LF.out ?_
          refine wpAnyH_take (i := 16) (v := .int .i64 0) rfl (by kernel_rfl) (by kernel_rfl) (by kernel_rfl) (fun _ _ _ h => h) (.inl ⟨by rfl, fun W hW => by (first | rfl | go_simp)⟩) LF.out ?_
          refine wpAnyH_done (by kernel_rfl) ?_ _
          go_wp2_with fail
          go_meet
          exact ⟨gx, A3, c3, A4, c4, rfl, rfl, rfl, rfl, GX, LF, EF, hid (PF.out.more HB.out), NB⟩
        -- END ends
      case rest =>
        obtain ⟨gx, A3, c3, A4, c4, rfl, rfl, rfl, rfl, GX, LF, EF, PF, NB⟩ := hcut
        clear KFm KEn S6
        obtain ⟨gb, rfl⟩ := ownB_at0 PF.out (by rw [B15.out]; omega)
        have c15 := PF.out.cap.1
        rw [B15.out] at c15
        have C15 := hid c15
        clear c15
        have S7 := hid (LF.out.setE (s' := s2))
        have P7 := hid (ownB_setRow PF.out (g := gE) (by have h1 := LF.out.l; have h2 := LF.out.T.T.l1; omega) s2.ag)
        obtain ⟨V7, hV7⟩ : ∃ V7, V7 = wc.setRow gE s2.ag := ⟨_, rfl⟩
        rw [← hV7] at S7 P7
        have HV7 := hid hV7
        clear hV7
        have cF := (Tk.at_ S7.out.K).2.2.1
        have KS3 := hid (fun W => spot_any t.f 3 W (by omega) (by omega))
        have φ0 := Int.emod_nonneg t.f (show (3 : Int) ≠ 0 by omega)
        have φ1 := Int.emod_lt_of_pos t.f (show (0 : Int) < 3 by omega)
        obtain ⟨φ, hφ⟩ : ∃ φ, φ = t.f % 3 := ⟨_, rfl⟩
        rw [← hφ] at KS3 φ0 φ1
        clear hφ
        have hφ : φ = 0 ∨ φ = 1 ∨ φ = 2 := by omega
        clear φ0 φ1
        rcases hφ with rfl | rfl | rfl
        · have KDe := hid (fun W (h : Rb W W.heap.size (some ⟨gb, 0, none⟩) bs) (hS : Below w.heap.size w W) => show Calls Tryd.prog 12 #[.agg m.ag, .slice (some ⟨gb, 0, none⟩) 15 c3] W (fun e w' => ∃ A5 c5, e = .returned (.tuple #[.agg md.ag, .slice A5 80 c5, .int .i64 0]) ∧ Own w' W.heap.size A5 c5 yd ∧ Below W.heap.size W w') from by
            have h1 := decode_any m HMK.out (some ⟨gb, 0, none⟩) c3 15 bs W (TT.out.1.below hS) (TT.out.2.1.below hS) (TT.out.2.2.below hS) h B15.out C15.out BYT.out
            unfold NewM at h1
            rw [YS.out.1, YS.out.2.1, YS.out.2.2, YL.out] at h1
            exact h1)
          go_wp2_with (first
            | (refine wpList_loadE rfl (.tmp 9) rfl _ s2 rfl EF.out K2.out ?_)
            | (refine wpList_storeE rfl (.tmp 5) (.tmp 52) rfl _ s s2 rfl rfl LF.out.T.T.E HF.out.k K2.out ?_; rw [← HV7.out]; clear HV7)
            | (go_at_call 21; (with_reducible refine (KS3.out _).mono ?_); rintro e w' ⟨rfl, rfl⟩)
            | (refine wpList_loadM rfl (.tmp 6) rfl _ m rfl S7.out.T.T.D HMK.out ?_))
          with_reducible refine (KDe.out V7 P7.out.reads S7.out.T.T.bel).mono ?_
          rintro e w8 ⟨A5, c5, rfl, hO, hB⟩
          have S8 := hid (S7.out.below hB)
          clear hO hB KDe cF
          have BB := below_stored w8 (.cells Tryd.zeroCells30 30) md.ag
          have S9 := hid (S8.out.below BB)
          have M9 := hid (MB.setRow (newzero w8) md)
          obtain ⟨V9, hV9⟩ : ∃ V9, V9 = (w8.alloc (.cells Tryd.zeroCells30 30)).setRow w8.heap.size md.ag := ⟨_, rfl⟩
          rw [← hV9] at S9 M9
          have HV9 := hid hV9
          have TF := hid (S9.out.T.setD (m' := md))
          obtain ⟨V10, hV10⟩ : ∃ V10, V10 = V9.setRow gD md.ag := ⟨_, rfl⟩
          rw [← hV10] at TF
          have HV10 := hid hV10
          clear hV9 hV10 BB S8
          go_wp2_with (first
            | (refine wpList_storeM rfl (.tmp 13) (.tmp 61) rfl _ zeroM md rfl rfl (newzero w8) zeroM_ok MK.out ?_; rw [← HV9.out]; clear HV9)
            | (refine wpList_loadM rfl (.tmp 13) rfl _ md rfl M9.out MK.out ?_)
            | (refine wpList_storeM rfl (.tmp 6) (.tmp 68) rfl _ m md rfl rfl S9.out.T.T.D HMK.out MK.out ?_; rw [← HV10.out]; clear HV10))
          go_roundw
          case rel => exact ⟨k + 1, s2, md, by omega, by go_num, F2, MK, MG, TF⟩
          case measure => simp [intOf] <;> omega
        · go_wp2_with (first
            | (refine wpList_loadE rfl (.tmp 9) rfl _ s2 rfl EF.out K2.out ?_)
            | (refine wpList_storeE rfl (.tmp 5) (.tmp 52) rfl _ s s2 rfl rfl LF.out.T.T.E HF.out.k K2.out ?_; rw [← HV7.out]; clear HV7)
            | (go_at_call 21; (with_reducible refine (KS3.out _).mono ?_); rintro e w' ⟨rfl, rfl⟩)
            | (refine wpList_loadM rfl (.tmp 6) rfl _ m rfl S7.out.T.T.D HMK.out ?_))
          obtain ⟨VV, hVV⟩ : ∃ VV, VV = V7 := ⟨_, rfl⟩
          rw [← hVV] at S7 ⊢
          have SS := S7
          clear hVV S7 cF
          have KEr := hid (fun W => show Calls Tryd.prog 16 #[.agg m.ag] W (fun e w' => ∃ A5 c5, e = .returned (.tuple #[.agg (coM m).ag, .slice A5 80 c5, .int .i64 0]) ∧ Own w' W.heap.size A5 c5 (coY m) ∧ Below W.heap.size W w') from by
            have h1 := erase_any m HMK.out W
            unfold NewM at h1
            rw [(coM_good HMG.out).2, HMG.out] at h1
            exact h1)
          have CK := hid (coM_ok HMK.out)
          have CG := hid (coM_good HMG.out).1
          obtain ⟨m2, hm2⟩ : ∃ m2, m2 = coM m := ⟨_, rfl⟩
          rw [← hm2] at KEr CK CG
          clear hm2
          with_reducible refine (KEr.out VV).mono ?_
          rintro e w8 ⟨A5, c5, rfl, hO, hB⟩
          have S8 := hid (SS.out.below hB)
          clear hO hB KEr
          have BB := below_stored w8 (.cells Tryd.zeroCells30 30) m2.ag
          have S9 := hid (S8.out.below BB)
          have M9 := hid (MB.setRow (newzero w8) m2)
          obtain ⟨V9, hV9⟩ : ∃ V9, V9 = (w8.alloc (.cells Tryd.zeroCells30 30)).setRow w8.heap.size m2.ag := ⟨_, rfl⟩
          rw [← hV9] at S9 M9
          have HV9 := hid hV9
          have TF := hid (S9.out.T.setD (m' := m2))
          obtain ⟨V10, hV10⟩ : ∃ V10, V10 = V9.setRow gD m2.ag := ⟨_, rfl⟩
          rw [← hV10] at TF
          have HV10 := hid hV10
          clear hV9 hV10 BB S8
          go_wp2_with (first
            | (refine wpList_storeM rfl (.tmp 19) (.tmp 102) rfl _ zeroM m2 rfl rfl (newzero w8) zeroM_ok CK.out ?_; rw [← HV9.out]; clear HV9)
            | (refine wpList_loadM rfl (.tmp 19) rfl _ m2 rfl M9.out CK.out ?_)
            | (refine wpList_storeM rfl (.tmp 6) (.tmp 114) rfl _ m m2 rfl rfl S9.out.T.T.D HMK.out CK.out ?_; rw [← HV10.out]; clear HV10))
          go_roundw
          case rel => exact ⟨k + 1, s2, m2, by omega, by go_num, F2, CK, CG, TF⟩
          case measure => simp [intOf] <;> omega
        · go_upto_region 15 with (first
            | (refine wpList_loadE rfl (.tmp 9) rfl _ s2 rfl EF.out K2.out ?_)
            | (refine wpList_storeE rfl (.tmp 5) (.tmp 52) rfl _ s s2 rfl rfl LF.out.T.T.E HF.out.k K2.out ?_; rw [← HV7.out]; clear HV7)
            | (go_at_call 21; (with_reducible refine (KS3.out _).mono ?_); rintro e w' ⟨rfl, rfl⟩))
          have hi0 := Int.emod_nonneg t.a (show (15 : Int) ≠ 0 by omega)
          have hi1 := Int.emod_lt_of_pos t.a (show (0 : Int) < 15 by omega)
          obtain ⟨i, hi⟩ : ∃ i : Nat, t.a % 15 = i := ⟨(t.a % 15).toNat, by omega⟩
          have hi15 : i < 15 := by omega
          have KSa := hid (fun W => show Calls Tryd.prog 21 #[.int .i64 t.a, .int .i64 15] W (fun e w' => e = .returned (.int .i64 (i : Nat)) ∧ W = w') from by rw [← hi]; exact spot_any t.a 15 W (by omega) (by omega))
          clear hi0 hi1 hi
          have y0 := Int.emod_nonneg t.k (show (255 : Int) ≠ 0 by omega)
          have y1 := Int.emod_lt_of_pos t.k (show (0 : Int) < 255 by omega)
          have KSk := hid (fun W => spot_any t.k 255 W (by omega) (by omega))
          generalize t.k % 255 = y at *
          have hw1 : IntKind.i64.wrap (1 + y) = 1 + y := by rw [IntKind.wrap_i64]; omega
          have hib : (i : Int) < 15 := by omega
          have hw8 : IntKind.u8.wrap (1 + y) = 1 + y := wrap8 (by omega) (by omega)
          have TB := hid (turn_byte (BYT.out i) y0 y1)
          have HB := hid (BYT.out i)
          obtain ⟨b, hb⟩ : ∃ b, b = bs.getD i 0 := ⟨_, rfl⟩
          rw [← hb] at HB
          rw [← hb] at TB
          have HBE := hid hb
          clear hb
          refine wp_region_ord [0, 1, 3, 4, 8] [2, 5, 6, 7, 9, 10, 11, 12, 13] 14 [15] (fun W => Sg w W gE gD gT s2 m t gb c3 bs) (by kernel_rfl) (by kernel_rfl) rfl ⟨S7.out.below ((Below.refl _ _).drew), P7.out.below ((Below.refl _ _).drew)⟩ (fun _ _ d _ _ h => by cases d <;> exact h) ?_
          simp only [opsAt, List.getElem?_toArray, List.getElem?_cons_zero, List.getElem?_cons_succ]
          refine wpYields_step (v := .slice (some ⟨gb, 0, none⟩) 15 c3) (by rfl) (fun W => rfl) ?_
          refine wpYields_step (v := .pointer (some ⟨gT, 3, none⟩)) (by rfl) (fun W => ?_) ?_
          · go_simp
          refine wpYields_step (v := .slice (some ⟨gb, 0, none⟩) 15 c3) (by rfl) (fun W => rfl) ?_
          refine wpYields_step (v := .int .i64 15) (by rfl) (fun W => ?_) ?_
          · go_simp
          refine wpYields_step (v := .pointer (some ⟨gT, 4, none⟩)) (by rfl) (fun W => ?_) ?_
          · go_simp
          refine wpYields_nil ?_
          simp only [Act.put, List.setIfInBounds_toArray, List.set_cons_zero, List.set_cons_succ, List.getElem_toArray, List.getElem_cons_succ, List.getElem_cons_zero]
          refine wpQuiet_step (fun K hK => ?_)
          go_simp
          apply Exists.intro
          refine ⟨fun W hW => ?_, hK _ ?_⟩
          · have h := (Tk.at_ hW.F.K).2.2.2.1
            go_simp
            rfl
          clear hK K
          refine wpQuiet_step (fun K hK => ?_)
          go_simp
          apply Exists.intro
          refine ⟨fun W hW => ?_, hK _ ?_⟩
          · with_reducible exact (KSa.out W).mono fun e w' h => ⟨h.1, by rw [← h.2]; exact hW⟩
          clear hK K
          refine wpQuiet_step (fun K hK => ?_)
          go_simp
          refine ⟨.pointer (some ⟨gb, i, none⟩), fun W hW => ?_, hK _ ?_⟩
          · go_simp
          clear hK K
          refine wpQuiet_step (fun K hK => ?_)
          go_simp
          refine ⟨.int .u8 b, fun W hW => ?_, hK _ ?_⟩
          · have h := ownB_cell hW.O i (by rw [B15.out]; exact hi15)
            rw [← HBE.out] at h
            go_simp
          clear hK K
          refine wpQuiet_step (fun K hK => ?_)
          go_simp
          refine ⟨.int .i64 t.k, fun W hW => ?_, hK _ ?_⟩
          · have h := (Tk.at_ hW.F.K).2.2.2.2
            go_simp
          clear hK K
          refine wpQuiet_step (fun K hK => ?_)
          go_simp
          apply Exists.intro
          refine ⟨fun W hW => ?_, hK _ ?_⟩
          · with_reducible exact (KSk.out W).mono fun e w' h => ⟨h.1, by rw [← h.2]; exact hW⟩
          clear hK K
          refine wpQuiet_step (fun K hK => ?_)
          go_simp
          apply Exists.intro
          refine ⟨fun W hW => rfl, hK _ ?_⟩
          clear hK K
          refine wpQuiet_step (fun K hK => ?_)
          go_simp
          apply Exists.intro
          refine ⟨fun W hW => rfl, hK _ ?_⟩
          clear hK K
          refine wpQuiet_step (fun K hK => ?_)
          go_simp
          apply Exists.intro
          refine ⟨fun W hW => rfl, hK _ ?_⟩
          clear hK K
          obtain ⟨x, hx⟩ : ∃ x, x = bits BinOp.xor IntKind.u8 b (1 + y) := ⟨_, rfl⟩
          rw [← hx] at TB
          refine wpQuiet_nil ?_
          intro W8 hW8
          have S8 := hid hW8.F
          have P8 := hid hW8.O
          clear hW8 S7 P7 KSa KSk cF hw1 hw8
          have cb := ownB_cell P8.out i (by rw [B15.out]; exact hi15)
          have fb := ownB_frozen P8.out i
          rw [← HBE.out] at cb
          have P9 := hid (ownB_set P8.out i x)
          have S9 := hid (S8.out.farC (g := gb) (NB.out _ rfl).1 i (.int .u8 x))
          obtain ⟨V9, hV9⟩ : ∃ V9, V9 = W8.setCell ⟨gb, i, none⟩ (.int .u8 x) := ⟨_, rfl⟩
          rw [← hV9] at S9 P9
          have HV9 := hid hV9
          have NE := hid (turned BYT.out B15.out UE0.out hi15 TB.out.1 (by rw [← HBE.out]; exact TB.out.2))
          have BY2 := hid (byts_set BYT.out (i := i) TB.out.1)
          have L2 := hid (show (bs.set i x).length = 15 from by rw [List.length_set]; exact B15.out)
          clear hV9
          obtain ⟨b2, hb2⟩ : ∃ b2, b2 = bs.set i x := ⟨_, rfl⟩
          rw [← hb2] at P9 NE BY2 L2
          clear hb2 S8 P8
          rw [← hx]
          clear hx
          go_wp2_with (first
            | (rw [← HV9.out]; clear HV9 cb fb)
            | (refine wpList_loadM rfl (.tmp 6) rfl _ m rfl S9.out.T.T.D HMK.out ?_))
          have KDe := hid (fun W (h : Rb W W.heap.size (some ⟨gb, 0, none⟩) b2) (hS : Below w.heap.size w W) => show Calls Tryd.prog 12 #[.agg m.ag, .slice (some ⟨gb, 0, none⟩) 15 c3] W (fun e w' => ∃ A5 c5, e = .returned (.tuple #[.agg zeroM.ag, .slice A5 0 c5, .int .i64 (unE b2)]) ∧ Own w' W.heap.size A5 c5 [] ∧ Below W.heap.size W w') from by
            have h1 := decode_any m HMK.out (some ⟨gb, 0, none⟩) c3 15 b2 W (TT.out.1.below hS) (TT.out.2.1.below hS) (TT.out.2.2.below hS) h L2.out C15.out BY2.out
            have d0 : deE m b2 = unE b2 := by unfold deE; rw [if_pos HMG.out]
            have d1 : deM m b2 = zeroM := by unfold deM; rw [if_neg (by rw [d0]; exact NE.out)]
            have d2 : deY m b2 = [] := by unfold deY; rw [if_neg (by rw [d0]; exact NE.out)]
            unfold NewM at h1
            rw [d0, d1, d2] at h1
            exact h1)
          obtain ⟨er, her⟩ : ∃ er, er = unE b2 := ⟨_, rfl⟩
          rw [← her] at KDe NE
          have ne0 : (er == 0) = false := by have := NE.out; simpa using this
          have ne1 : ¬ er = 0 := NE.out
          clear her
          with_reducible refine (KDe.out V9 P9.out.reads S9.out.T.T.bel).mono ?_
          rintro e w10 ⟨A6, c6, rfl, hO, hB⟩
          have SA := hid (S9.out.below hB)
          clear hO hB KDe S9 P9
          have BB := below_stored w10 (.cells Tryd.zeroCells30 30) zeroM.ag
          have SS := hid (SA.out.below BB)
          obtain ⟨VV, hVV⟩ : ∃ VV, VV = (w10.alloc (.cells Tryd.zeroCells30 30)).setRow w10.heap.size zeroM.ag := ⟨_, rfl⟩
          rw [← hVV] at SS
          have HVV := hid hVV
          clear hVV BB SA
          go_wp2_with (first
            | (refine wpList_storeM rfl (.tmp 16) (.tmp 92) rfl _ zeroM zeroM rfl rfl (newzero w10) zeroM_ok zeroM_ok ?_; rw [← HVV.out]; clear HVV)
            | (refine wpList_loadM rfl (.tmp 6) rfl _ m rfl SS.out.T.T.D HMK.out ?_))
          clear ne0 ne1
          have KEr := hid (fun W => show Calls Tryd.prog 16 #[.agg m.ag] W (fun e w' => ∃ A5 c5, e = .returned (.tuple #[.agg (coM m).ag, .slice A5 80 c5, .int .i64 0]) ∧ Own w' W.heap.size A5 c5 (coY m) ∧ Below W.heap.size W w') from by
            have h1 := erase_any m HMK.out W
            unfold NewM at h1
            rw [(coM_good HMG.out).2, HMG.out] at h1
            exact h1)
          have CK := hid (coM_ok HMK.out)
          have CG := hid (coM_good HMG.out).1
          obtain ⟨m2, hm2⟩ : ∃ m2, m2 = coM m := ⟨_, rfl⟩
          rw [← hm2] at KEr CK CG
          clear hm2
          with_reducible refine (KEr.out VV).mono ?_
          rintro e w8 ⟨A5, c5, rfl, hO, hB⟩
          have S8 := hid (SS.out.below hB)
          clear hO hB KEr
          have BB := below_stored w8 (.cells Tryd.zeroCells30 30) m2.ag
          have S9 := hid (S8.out.below BB)
          have M9 := hid (MB.setRow (newzero w8) m2)
          obtain ⟨V9, hV9⟩ : ∃ V9, V9 = (w8.alloc (.cells Tryd.zeroCells30 30)).setRow w8.heap.size m2.ag := ⟨_, rfl⟩
          rw [← hV9] at S9 M9
          have HV9 := hid hV9
          have TF := hid (S9.out.T.setD (m' := m2))
          obtain ⟨V10, hV10⟩ : ∃ V10, V10 = V9.setRow gD m2.ag := ⟨_, rfl⟩
          rw [← hV10] at TF
          have HV10 := hid hV10
          clear hV9 hV10 BB S8
          go_wp2_with (first
            | (refine wpList_storeM rfl (.tmp 19) (.tmp 102) rfl _ zeroM m2 rfl rfl (newzero w8) zeroM_ok CK.out ?_; rw [← HV9.out]; clear HV9)
            | (refine wpList_loadM rfl (.tmp 19) rfl _ m2 rfl M9.out CK.out ?_)
            | (refine wpList_storeM rfl (.tmp 6) (.tmp 114) rfl _ m m2 rfl rfl S9.out.T.T.D HMK.out CK.out ?_; rw [← HV10.out]; clear HV10))
          go_roundw
          case rel => exact ⟨k + 1, s2, m2, by omega, by go_num, F2, CK, CG, TF⟩
          case measure => simp [intOf] <;> omega
    · obtain rfl : k = N := by omega
      have b1 : decide ((k : Int) < k) = false := by simp
      have X10 := hid (⟨HT.out.T.E, HT.out.T.D⟩ : Sz wr gE gD s m)
      have GL := hid HT.out.l
      have GD := hid HT.out.T.l1
      go_upto_region 24 with fail
      refine wp_region_held (S := fun W => Sz W gE gD s m) (by kernel_rfl) ?_
      have X1 := hid (X10.out.below ((Below.refl _ _).drew))
      have T1 := hid (HT.out.below ((Below.refl _ _).drew))
      change wpAnyH _ _ _ _ _ _ _ _ (World.drew _)
      obtain ⟨W1, hW1⟩ : ∃ W1, W1 = World.drew wr := ⟨_, rfl⟩
      rw [← hW1] at X1 T1 ⊢
      clear hW1 X10 HT
      refine wpAnyH_take (i := 0) (v := .agg s.cs.toArray) rfl (by kernel_rfl) (by kernel_rfl) (by kernel_rfl) (fun _ _ _ h => h) (yieldsIf_load_mid (by rfl) 32 (.tmp 5) rfl gE 0 rfl s.cs _ (fun W hW => EB.whole hW.E) Tryd.underlying32 rfl (by rw [sizeE, s.len HF.out.k])) X1.out ?_
      refine wpAnyH_take (i := 1) (v := .agg m.cs.toArray) rfl (by kernel_rfl) (by kernel_rfl) (by kernel_rfl) (fun _ _ _ h => h) (yieldsIf_load_mid (by rfl) 30 (.tmp 6) rfl gD 0 rfl m.cs _ (fun W hW => MB.whole hW.M) Tryd.underlying30 rfl (by rw [sizeM, m.len HMK.out])) X1.out ?_
      refine wpAnyH_ready (rs := [2]) (by kernel_rfl) (by simp) (AllReadyH.cons rfl (fun K hK => ?_) AllReadyH.nil)
      rw [if_pos (by rfl)]
      simp only [Act.put, List.setIfInBounds_toArray, List.set_cons_zero, List.set_cons_succ, List.getElem_toArray, List.getElem_cons_succ, List.getElem_cons_zero]
      refine wp_store_mid 32 (.tmp 2) (.tmp 116) rfl w.heap.size 0 s.ag rfl rfl (by rw [En.size _ HF.out.k]; exact EB.there T1.out.R zeroEn_ok) (by rw [En.size _ HF.out.k]; exact sizeE) (En.one _) ?_
      have X2 := hid (X1.out.far (g := w.heap.size) (by have := GL.out; omega) (by have := GL.out; have := GD.out; omega) s.ag.toList 0)
      have R2 := hid (show EB (W1.setCells w.heap.size 0 s.ag.toList) w.heap.size s from EB.setAll T1.out.R zeroEn_ok HF.out.k)
      have Q2 := hid (show MB (W1.setCells w.heap.size 0 s.ag.toList) (w.heap.size + 1) zeroM from blk_sc (by omega) _ _ _ T1.out.Q)
      have B2 := hid (show Below w.heap.size w (W1.setCells w.heap.size 0 s.ag.toList) from below_sc (Nat.le_refl _) _ _ _ T1.out.T.bel)
      obtain ⟨W2, hW2⟩ : ∃ W2, W2 = W1.setCells w.heap.size 0 s.ag.toList := ⟨_, rfl⟩
      rw [← hW2] at X2 R2 Q2 B2 ⊢
      clear hW2 X1 T1
      refine hK.out _ _ X2.out (fun _ => ?_)
      clear hK K
      refine wpAnyH_ready (rs := [3]) (by kernel_rfl) (by simp) (AllReadyH.cons rfl (fun K hK => ?_) AllReadyH.nil)
      rw [if_pos (by rfl)]
      simp only [Act.put, List.setIfInBounds_toArray, List.set_cons_zero, List.set_cons_succ, List.getElem_toArray, List.getElem_cons_succ, List.getElem_cons_zero]
      refine wp_store_mid 30 (.tmp 3) (.tmp 117) rfl (w.heap.size + 1) 0 m.ag rfl rfl (by rw [m.size HMK.out]; exact MB.there Q2.out zeroM_ok) (by rw [m.size HMK.out]; exact sizeM) (Mm.one _) ?_
      have X3 := hid (X2.out.far (g := w.heap.size + 1) (by have := GL.out; omega) (by have := GL.out; have := GD.out; omega) m.ag.toList 0)
      have R3 := hid (show EB (W2.setCells (w.heap.size + 1) 0 m.ag.toList) w.heap.size s from blk_sc (by omega) _ _ _ R2.out)
      have Q3 := hid (show MB (W2.setCells (w.heap.size + 1) 0 m.ag.toList) (w.heap.size + 1) m from mb_setAll Q2.out zeroM_ok HMK.out)
      have B3 := hid (show Below w.heap.size w (W2.setCells (w.heap.size + 1) 0 m.ag.toList) from below_sc (by omega) _ _ _ B2.out)
      obtain ⟨W3, hW3⟩ : ∃ W3, W3 = W2.setCells (w.heap.size + 1) 0 m.ag.toList := ⟨_, rfl⟩
      rw [← hW3] at X3 R3 Q3 B3 ⊢
      clear hW3 X2 R2 Q2 B2
      refine hK.out _ _ X3.out (fun _ => ?_)
      clear hK K
      refine wpAnyH_take (i := 4) (v := .bool true) rfl (by kernel_rfl) (by kernel_rfl) (by kernel_rfl) (fun _ _ _ h => h) (.inl ⟨by rfl, fun W hW => by (first | rfl | go_simp)⟩) X3.out ?_
      refine wpAnyH_done (by kernel_rfl) ?_ _
      go_wp2_with fail
      refine bodyPost_ret (v := _) (hR _ _ _ _ s m rfl R3.out HF.out.k rfl Q3.out HMK.out) rfl ?_
      exact ⟨s, m, HF.out, HMK.out, HMG.out, rfl, B3.out⟩
end Go.Proofs.YthoiikkjjaldnaaDoor

/- The law TopFades: six lost frames on end. -/
namespace Go.Proofs.YthoiikkjjaldnaaDoor
set_option linter.unusedVariables false
set_option linter.unusedSimpArgs false
set_option maxRecDepth 100000
open Go.RowKit

/-- The memory's box. -/
structure Tz (w W : World) (gD : Nat) (m : Mm) : Prop where
  D : MB W gD m
  bel : Below w.heap.size w W
  l0 : w.heap.size ≤ gD
section
variable {w W W' : World} {gD : Nat} {m m' : Mm}
theorem Tz.below (h : Tz w W gD m) (hb : Below W.heap.size W W') : Tz w W' gD m := ⟨Blk.below' h.D hb, h.bel.trans (hb.mono h.bel.size), h.l0⟩
theorem Tz.setD (h : Tz w W gD m) : Tz w (W.setRow gD m'.ag) gD m' := ⟨h.D.setRow m', below_setRow h.bel h.l0 _, h.l0⟩
end
set_option maxHeartbeats 4000000 in
theorem walkTopFades (w : World) (T1 : TabA w 2 rootsL) (T2 : TabA w 0 gainsL) (T3 : TabA w 1 widthL) (A : Option Addr) (n c : Nat) (hc : n ≤ c) (hc2 : c ≤ 9223372036854775807) (hr : RT w w.heap.size A n) :
    Calls Tryd.prog 4 #[.slice A n c] w (fun e w' => e = .returned (.bool true) ∧ Below w.heap.size w w') := by
  have KE := hid (ends_any w T1 T2 T3 A n c hc hr)
  have TT := hid (⟨T1, T2, T3⟩ : TabA w 2 rootsL ∧ TabA w 0 gainsL ∧ TabA w 1 widthL)
  have KEr := hid (fun (m : Mm) (k : m.ok) (g : goodM m = true) W => show Calls Tryd.prog 16 #[.agg m.ag] W (fun e w' => ∃ A5 c5, e = .returned (.tuple #[.agg (coM m).ag, .slice A5 80 c5, .int .i64 0]) ∧ Own w' W.heap.size A5 c5 (coY m) ∧ Below W.heap.size W w') from by
    have h1 := erase_any m k W
    unfold NewM at h1
    rw [(coM_good g).2, g] at h1
    exact h1)
  clear hr T1 T2 T3 hc hc2
  go_enter Tryd.func4, Tryd.ntmps4
  go_wp2_with fail
  refine KE.out.mono ?_
  rintro e w2 ⟨s, m, fs, km, gm, rfl, hB⟩
  have B2 := hid hB
  have FSe := hid fs
  have KM := hid km
  have GM := hid gm
  clear hB KE fs km gm
  have Z0 := newzeroE w2
  have Z1 := newzero (w2.alloc (.cells Tryd.zeroCells32 32))
  simp only [World.size_alloc] at Z1
  have T3 := hid (show Tp w ((w2.alloc (.cells Tryd.zeroCells32 32)).alloc (.cells Tryd.zeroCells30 30)) w2.heap.size (w2.heap.size + 1) zeroEn zeroM from
    ⟨Blk.alloc Z0 _, Z1, (B2.out.alloc B2.out.size _).alloc (by have := B2.out.size; simp; omega) _, B2.out.size, by omega⟩)
  have T4 := hid (T3.out.setE (s' := s))
  have T5 := T4.out.setD (m' := m)
  obtain ⟨V3, hV3⟩ : ∃ V3, V3 = ((w2.alloc (.cells Tryd.zeroCells32 32)).alloc (.cells Tryd.zeroCells30 30)) := ⟨_, rfl⟩
  rw [← hV3] at T3 T4 T5
  obtain ⟨V5, hV5⟩ : ∃ V5, V5 = (V3.setRow w2.heap.size s.ag).setRow (w2.heap.size + 1) m.ag := ⟨_, rfl⟩
  rw [← hV5] at T5
  have S5 := hid (⟨T5.D, T5.bel, by have := T5.l0; have := T5.l1; omega⟩ : Tz w V5 (w2.heap.size + 1) m)
  have HV3 := hid hV3.symm
  have HV5 := hid hV5.symm
  clear hV3 hV5 Z0 Z1 T5
  go_wp2_with (first
    | (rw [HV3.out]; clear HV3)
    | (refine wpList_storeE rfl (.tmp 3) (.tmp 15) rfl _ zeroEn s rfl rfl T3.out.E zeroEn_ok FSe.out.k ?_)
    | (refine wpList_storeM rfl (.tmp 4) (.tmp 16) rfl _ zeroM m rfl rfl T4.out.D zeroM_ok KM.out ?_; rw [HV5.out]; clear HV5))
  refine (topalive_any V5 (TT.out.1.below S5.out.bel) (TT.out.2.1.below S5.out.bel) (TT.out.2.2.below S5.out.bel)).mono ?_
  rintro e w6 ⟨rfl, hB⟩
  have S6 := hid (S5.out.below hB)
  clear hB S5 T3 T4
  go_wp2_with fail
  obtain ⟨gD, hgD⟩ : ∃ gD, gD = w2.heap.size + 1 := ⟨_, rfl⟩
  rw [← hgD] at S6 ⊢
  clear hgD
  go_loopw [24] (fun iv wr => ∃ j : Nat, j ≤ 6 ∧ iv = .int .i64 j ∧ Hid (Tz w wr gD (coN m j))) (fun iv _ => 6 - (intOf iv).toNat)
  case atStart => exact ⟨0, by omega, rfl, S6⟩
  case round =>
    clear S6
    obtain ⟨j, hj, rfl, HT⟩ := hrel
    have KJ := hid (coN_ok KM.out j)
    have GJ := hid (coN_good GM.out j)
    obtain ⟨mj, hmj⟩ : ∃ mj, mj = coN m j := ⟨_, rfl⟩
    rw [← hmj] at HT KJ GJ
    have HMJ := hid hmj
    clear hmj
    by_cases hlt : j < 6
    · have HN := hid (show coN m (j + 1) = coM mj from by rw [HMJ.out]; rfl)
      have K2 := hid (coM_ok KJ.out)
      have KX := hid (KEr.out mj KJ.out GJ.out)
      obtain ⟨m2, hm2⟩ : ∃ m2, m2 = coM mj := ⟨_, rfl⟩
      rw [← hm2] at HN K2 KX
      clear hm2
      go_wp2_with (refine wpList_loadM rfl (.tmp 4) rfl _ mj rfl HT.out.D KJ.out ?_)
      with_reducible refine (KX.out wr).mono ?_
      rintro e w8 ⟨A5, c5, rfl, hO, hB⟩
      have S8 := hid (HT.out.below hB)
      clear hO hB KX HT
      have BB := below_stored w8 (.cells Tryd.zeroCells30 30) m2.ag
      have S9 := hid (S8.out.below BB)
      have M9 := hid (MB.setRow (newzero w8) m2)
      obtain ⟨V9, hV9⟩ : ∃ V9, V9 = (w8.alloc (.cells Tryd.zeroCells30 30)).setRow w8.heap.size m2.ag := ⟨_, rfl⟩
      rw [← hV9] at S9 M9
      have HV9 := hid hV9
      have TF := hid (S9.out.setD (m' := m2))
      obtain ⟨V10, hV10⟩ : ∃ V10, V10 = V9.setRow gD m2.ag := ⟨_, rfl⟩
      rw [← hV10] at TF
      have HV10 := hid hV10
      clear hV9 hV10 BB S8
      go_wp2_with (first
        | (refine wpList_storeM rfl (.tmp 6) (.tmp 29) rfl _ zeroM m2 rfl rfl (newzero w8) zeroM_ok K2.out ?_; rw [← HV9.out]; clear HV9)
        | (refine wpList_loadM rfl (.tmp 6) rfl _ m2 rfl M9.out K2.out ?_)
        | (refine wpList_storeM rfl (.tmp 4) (.tmp 34) rfl _ mj m2 rfl rfl S9.out.D KJ.out K2.out ?_; rw [← HV10.out]; clear HV10))
      go_roundw
      case rel => exact ⟨j + 1, by omega, by go_num, hid (by rw [HN.out]; exact TF.out)⟩
      case measure => simp [intOf] <;> omega
    · obtain rfl : j = 6 := by omega
      have K2 := hid (coM_ok KJ.out)
      have KX := hid (KEr.out mj KJ.out GJ.out)
      have EZ := hid (show (coM mj).e = List.replicate 80 0 from coM_faded KJ.out GJ.out (by rw [HMJ.out]; exact coN_six GM.out))
      obtain ⟨m2, hm2⟩ : ∃ m2, m2 = coM mj := ⟨_, rfl⟩
      rw [← hm2] at K2 KX EZ
      clear hm2
      go_wp2_with (refine wpList_loadM rfl (.tmp 4) rfl _ mj rfl HT.out.D KJ.out ?_)
      with_reducible refine (KX.out wr).mono ?_
      rintro e w8 ⟨A5, c5, rfl, hO, hB⟩
      have S8 := hid (HT.out.below hB)
      clear hO hB KX HT
      have BB := below_stored w8 (.cells Tryd.zeroCells30 30) m2.ag
      have S9 := hid (S8.out.below BB)
      have M9 := hid (MB.setRow (newzero w8) m2)
      obtain ⟨V9, hV9⟩ : ∃ V9, V9 = (w8.alloc (.cells Tryd.zeroCells30 30)).setRow w8.heap.size m2.ag := ⟨_, rfl⟩
      rw [← hV9] at S9 M9
      have HV9 := hid hV9
      clear hV9 BB S8
      obtain ⟨z, hz⟩ : ∃ z : List Int, z = List.replicate 80 0 := ⟨_, rfl⟩
      have HI80 := hid (show (Tryd.prog.info? 28).map (·.size) = some (ints z).length from by rw [hz, ints_len, List.length_replicate]; exact size80k)
      have EZ := hid (show m2.e = z from by rw [hz]; exact EZ.out)
      have HEQ : ∀ W, (Op.equalIn 10000 28 (.agg (ints z).toArray) (.agg Tryd.zeroCells28)).run Tryd.prog W = .ok true W := fun W => by
        rw [show Tryd.zeroCells28 = agi (List.replicate 80 0) from by kernel_rfl, ← hz]
        exact run_equalIn_agi 9998 Tryd.underlying28 z (by rw [hz]; simp) W
      clear hz
      go_wp2_with (first
        | (refine wpList_storeM rfl (.tmp 9) (.tmp 39) rfl _ zeroM m2 rfl rfl (newzero w8) zeroM_ok K2.out ?_; rw [← HV9.out]; clear HV9)
        | (refine wpList_load_midW rfl 28 (.tmp 45) rfl w8.heap.size 16 rfl (ints z) _ (by have h := MB.E M9.out K2.out; rw [EZ.out] at h; exact h) Tryd.underlying28 rfl HI80.out ?_))
      go_ret
      exact ⟨rfl, S9.out.bel⟩
end Go.Proofs.YthoiikkjjaldnaaDoor
