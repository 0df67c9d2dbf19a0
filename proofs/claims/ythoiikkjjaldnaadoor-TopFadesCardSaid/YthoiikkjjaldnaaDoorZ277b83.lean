/- Texts that the law rests on, laid together: NewR, FiltR, CoP, CoW. -/
import Derived.Test.YthoiikkjjaldnaaDoorZc583e9
import Derived.Test.YthoiikkjjaldnaaDoorZ104825
import Derived.Test.YthoiikkjjaldnaaDoorZ74332c
import Derived.Test.YthoiikkjjaldnaaDoorZ53f5e2
/- The walk of the reference's newest. -/
namespace Go.Proofs.YthoiikkjjaldnaaDoor
set_option linter.unusedVariables false
set_option linter.unusedSimpArgs false
set_option maxRecDepth 100000
open Go.RowKit

/-- The two boxes and the row that is filled: the past, the answer's, the row. -/
structure Nx (w wr : World) (p ys : List Int) : Prop where
  A : IB wr w.heap.size 27 p
  R : IB wr (w.heap.size + 1) 27 Z8
  O : IB wr (w.heap.size + 2) 27 ys
  bel : Below w.heap.size w wr
theorem Nx.start (w : World) (p : List Int) : Nx w (((w.alloc (.cells (agi p) 27)).alloc (.cells (agi Z8) 27)).alloc (.cells (agi Z8) 27)) p Z8 := by
  have h1 := IB.new w 27 p
  have h2 := IB.new (w.alloc (.cells (agi p) 27)) 27 Z8
  have h3 := IB.new ((w.alloc (.cells (agi p) 27)).alloc (.cells (agi Z8) 27)) 27 Z8
  simp only [World.size_alloc] at h2 h3
  exact ⟨Blk.alloc (Blk.alloc h1 _) _, Blk.alloc h2 _, h3, ((((Below.refl _ _).alloc (Nat.le_refl _) _).alloc (by simp) _).alloc (by simp; omega) _)⟩
theorem Nx.set_ {w wr : World} {p ys : List Int} (h : Nx w wr p ys) (k : Nat) (x : Int) : Nx w (wr.setCell ⟨w.heap.size + 2, k, none⟩ (.int .i64 x)) p (ys.set k x) :=
  ⟨Blk.far h.A (by show w.heap.size ≠ w.heap.size + 2; omega) _, Blk.far h.R (by show w.heap.size + 1 ≠ w.heap.size + 2; omega) _, IB.set_ h.O k x, h.bel.setCell (p := ⟨w.heap.size + 2, k, none⟩) (by show w.heap.size ≤ w.heap.size + 2; omega) _⟩
theorem Nx.drew {w wr : World} {p ys : List Int} (h : Nx w wr p ys) : Nx w wr.drew p ys := ⟨h.A, h.R, h.O, h.bel.drew⟩

end Go.Proofs.YthoiikkjjaldnaaDoor

/- The walks of the reference's rightFilter, newest and guess. -/
namespace Go.Proofs.YthoiikkjjaldnaaDoor
set_option linter.unusedVariables false
set_option linter.unusedSimpArgs false
set_option maxRecDepth 100000
open Go.RowKit

end Go.Proofs.YthoiikkjjaldnaaDoor

/- Package coder's play: excitation becomes samples. -/
namespace Go.Proofs.YthoiikkjjaldnaaDoor
set_option linter.unusedVariables false
set_option linter.unusedSimpArgs false
set_option maxRecDepth 100000
open Go.RowKit

section
variable {w w' wr : World} {g : Nat} {m : Mm}
theorem MB.thereP (h : MB w g m) (k : m.ok) : w.there g 8 8 := fun j hj => by
  have h1 := h.there k (8 + j) (by omega)
  rwa [Nat.zero_add] at h1
theorem MB.set_p (h : MB w g m) (k : m.ok) (p : List Int) (hp : p.length = 8) : MB (w.setCells g 8 (ints p)) g { m with p := p } := by
  have h0 : Blk w g 30 (ints m.r ++ (ints m.p ++ (ints m.e ++ m.tl))).toArray := by
    have e1 : m.ag = (ints m.r ++ (ints m.p ++ (ints m.e ++ m.tl))).toArray := rfl
    rw [← e1]; exact h
  have h1 := blk_setCells (ints p) (ints m.p) _ _ w h0 (by rw [ints_len, ints_len, hp, k.p])
  have hl : (ints m.r).length = 8 := by rw [ints_len, k.r]
  rw [hl] at h1
  exact h1
theorem results_mem2 {fn : Func} {p q : Tmp} (h : fn.results = #[.cell p 30, .tmp q]) (tmps : Array Value) (w : World) (g : Nat) (m : Mm)
    (hp : tmps.getD p undef = .pointer (some ⟨g, 0, none⟩)) (hg : MB w g m) (k : m.ok) :
    (results fn tmps).run Tryd.prog w = .ok (.tuple #[.agg m.ag, tmps.getD q undef]) w := by
  have hp' : tmps[p]?.getD undef = .pointer (some ⟨g, 0, none⟩) := by simpa using hp
  have hr := run_loadVar_row (P := Tryd.prog) w g 30 30 m.ag (0, 0) _ hg Tryd.underlying30 rfl (by rw [sizeM, m.size k])
  simp [results, h, hp', asAddr, hr]
theorem newzero (w : World) : MB (w.alloc (.cells Tryd.zeroCells30 30)) w.heap.size zeroM := by rw [zeroM_ag]; exact MB.new w zeroM
theorem Ms.setA {mm : Mm} (s : Ms w wr m) : Ms w (wr.setRow w.heap.size mm.ag) mm :=
  ⟨s.A.setRow mm, Blk.rowFar s.R (by omega), below_setRow s.bel (Nat.le_refl _) _⟩
end
/-- The boxes of play: the memory, the predictor, the answer's. -/
structure Py (w wr : World) (m : Mm) (a : List Int) : Prop where
  A : MB wr w.heap.size m
  F : IB wr (w.heap.size + 1) 69 a
  R : MB wr (w.heap.size + 2) zeroM
  bel : Below w.heap.size w wr
theorem Py.start (w : World) (m : Mm) (a : List Int) : Py w (((w.alloc (.cells m.ag 30)).alloc (.cells (agi a) 69)).alloc (.cells Tryd.zeroCells30 30)) m a := by
  have h1 := MB.new w m
  have h2 := IB.new (w.alloc (.cells m.ag 30)) 69 a
  have h3 := newzero ((w.alloc (.cells m.ag 30)).alloc (.cells (agi a) 69))
  simp only [World.size_alloc] at h2 h3
  exact ⟨Blk.alloc (Blk.alloc h1 _) _, Blk.alloc h2 _, h3, ((((Below.refl _ _).alloc (Nat.le_refl _) _).alloc (by simp) _).alloc (by simp; omega) _)⟩
theorem Py.below {w wr w' : World} {m : Mm} {a : List Int} (s : Py w wr m a) (hb : Below wr.heap.size wr w') : Py w w' m a :=
  ⟨Blk.below' s.A hb, Blk.below' s.F hb, Blk.below' s.R hb, s.bel.trans (hb.mono s.bel.size)⟩
theorem Py.lt {w wr : World} {m : Mm} {a : List Int} (s : Py w wr m a) : w.heap.size + 3 ≤ wr.heap.size := Blk.lt s.R
def PlayA (w : World) (mm : Mm) (ys : List Int) (e : Ending) (w' : World) : Prop := ∃ A c, e = .returned (.tuple #[.agg mm.ag, .slice A ys.length c]) ∧ Own w' w.heap.size A c ys ∧ Below w.heap.size w w'

set_option maxHeartbeats 4000000 in
theorem play_any (m : Mm) (k : m.ok) (a x : List Int) (A : Option Addr) (c n : Nat) (w : World) (ha : a.length = 9) (hr : Rs w w.heap.size A x) (hn : x.length = n) (hl : n ≤ 40) :
    Calls Tryd.prog 39 #[.agg m.ag, .agg (agi a), .slice A n c] w (PlayA w { m with p := playP a m.p x } (playY a m.p x)) := by
  have hR := results_mem2 (fn := Tryd.f39) (p := 6) (q := 7) rfl
  have S0 := hid (Py.start w m a)
  have K := hid k
  have HA := hid ha
  have QL := hid (playP_len (a := a) (x := x) k.p)
  have HX := hid ((hr.below S0.out.bel).more S0.out.bel.size)
  have KM := hid (fun W (hr : Rs W W.heap.size A x) => show Calls Tryd.prog 48 #[.agg (agi a), .agg (ints m.p).toArray, .slice A n c] W (NewSP W (playY a m.p x) (playP a m.p x) (errOf (goodF a m.p x))) from by
    have := synthMake_any a m.p x A c n W ha k.p hr hn (by omega)
    unfold playY playP
    rw [hn]
    exact this)
  have hi8 : (Tryd.prog.info? 27).map (·.size) = some (ints m.p).length := by rw [ints_len, k.p]; exact size8'
  have HI8 := hid hi8
  clear k ha hr hn hi8
  generalize hq : playP a m.p x = q at *
  generalize hy : playY a m.p x = y at *
  generalize errOf (goodF a m.p x) = er at *
  clear hq hy
  go_enter Tryd.func39, Tryd.ntmps39
  go_wp2_with (first
    | (refine wpList_loadI rfl 69 (.tmp 4) rfl _ 69 a 9 _ rfl S0.out.F Tryd.underlying69 rfl size9 HA.out ?_)
    | (refine wpList_load_mid rfl 27 (.tmp 13) rfl _ _ rfl (ints m.p) _ (S0.out.A.P K.out) Tryd.underlying27 rfl HI8.out ?_))
  refine (KM.out _ HX.out).mono ?_
  rintro e w1 ⟨A1, c1, rfl, hO, hB⟩
  have S1 := hid (S0.out.below hB)
  have LT0 := hid S0.out.lt
  have O1 := hid (hO.more (base' := w.heap.size + 3) LT0.out)
  clear hO hB S0 HX KM
  have K2 := hid (show ({ m with p := q } : Mm).ok from ⟨K.out.r, QL.out, K.out.e⟩)
  have B2 := hid (below_stored w1 (.cells (agi Z8) 27) (agi q))
  obtain ⟨w2, hw2⟩ : ∃ w2, w2 = (w1.alloc (.cells (agi Z8) 27)).setRow w1.heap.size (agi q) := ⟨_, rfl⟩
  rw [← hw2] at B2
  have S2 := hid (S1.out.below B2.out)
  have Q2 := hid (show IB w2 w1.heap.size 27 q by rw [hw2]; exact IB.stored w1 27 Z8 q)
  have O2 := hid (O1.out.below B2.out)
  rw [z8_eq] at hw2
  have HW2 := hid hw2
  clear hw2
  obtain ⟨w3, hw3⟩ : ∃ w3, w3 = w2.setCells w.heap.size 8 (ints q) := ⟨_, rfl⟩
  have S3 := hid (show Py w w3 { m with p := q } a by
    rw [hw3]
    exact ⟨S2.out.A.set_p K.out q QL.out, blk_sc (by omega) _ _ _ S2.out.F, blk_sc (by omega) _ _ _ S2.out.R, below_sc (Nat.le_refl _) _ _ _ S2.out.bel⟩)
  have O3 := hid (show Own w3 (w.heap.size + 3) A1 c1 y by rw [hw3]; exact Own.setCs (by omega) _ _ _ O2.out)
  have HW3 := hid hw3
  clear hw3
  have hRow := hid (MB.setRow S3.out.R { m with p := q })
  have FIN := hid (below_setRow S3.out.bel (g := w.heap.size + 2) (by omega) ({ m with p := q } : Mm).ag)
  have OF := hid ((O3.out.setRow (g := w.heap.size + 2) (by omega) ({ m with p := q } : Mm).ag).more (base' := w.heap.size) (by omega))
  have SZ := hid (show (Tryd.prog.info? 27).map (·.size) = some (agi q).size from by rw [agi_size, QL.out]; exact size8')
  have TH := hid (show w2.there w.heap.size 8 (agi q).size from by rw [agi_size, QL.out]; exact S2.out.A.thereP K.out)
  go_wp2_with (first
    | (refine wpList_storeI rfl 27 (.tmp 9) (.tmp 18) rfl _ 27 Z8 q 8 rfl rfl (IB.new w1 27 Z8) size8' rfl QL.out ?_; rw [← HW2.out])
    | (refine wpList_loadI rfl 27 (.tmp 9) rfl _ 27 q 8 _ rfl Q2.out Tryd.underlying27 rfl size8' QL.out ?_)
    | (refine wpList_store_mid rfl 27 (.tmp 21) (.tmp 20) rfl w.heap.size 8 (agi q) rfl rfl TH.out SZ.out (agi_one _) ?_; rw [show (agi q).toList = ints q from rfl, ← HW3.out])
    | (refine wpList_loadM rfl (.tmp 3) rfl _ { m with p := q } rfl S3.out.A K2.out ?_)
    | (refine wpList_storeM rfl (.tmp 6) (.tmp 22) rfl _ zeroM { m with p := q } rfl rfl S3.out.R zeroM_ok K2.out ?_))
  refine bodyPost_ret (v := _) (hR _ _ _ { m with p := q } rfl hRow.out K2.out) rfl ?_
  exact ⟨A1, c1, rfl, OF.out, FIN.out⟩
end Go.Proofs.YthoiikkjjaldnaaDoor

/- Package coder's Erase. -/
namespace Go.Proofs.YthoiikkjjaldnaaDoor
set_option linter.unusedVariables false
set_option linter.unusedSimpArgs false
set_option maxRecDepth 100000
open Go.RowKit

def msK (a : List Int) (m : Mm) : Nat → Mm
  | 0 => m
  | k + 1 => stM a (msK a m k) k
def ysK (a : List Int) (m : Mm) : Nat → List Int
  | 0 => []
  | k + 1 => ysK a m k ++ stY a (msK a m k) k
theorem msK_ok {a : List Int} {m : Mm} (k : m.ok) (n : Nat) : (msK a m n).ok := by
  induction n with
  | zero => exact k
  | succ n ih => exact stM_ok ih _ _
theorem ysK_len (a : List Int) (m : Mm) (n : Nat) : (ysK a m n).length ≤ 40 * n := by
  induction n with
  | zero => exact Nat.le_refl _
  | succ n ih =>
    have := stY_len a (msK a m n) n
    rw [ysK, List.length_append]
    omega
/-- The boxes, and the predictor's. -/
structure Ec (w wr : World) (m : Mm) (g : Nat) (a : List Int) : Prop where
  M : Ms w wr m
  F : IB wr g 69 a
  lt : w.heap.size + 2 ≤ g
section
variable {w wr w' : World} {m mm : Mm} {g : Nat} {a : List Int}
theorem Ec.below (s : Ec w wr m g a) (hb : Below wr.heap.size wr w') : Ec w w' m g a := ⟨s.M.below hb, Blk.below' s.F hb, s.lt⟩
theorem Ec.setA (s : Ec w wr m g a) : Ec w (wr.setRow w.heap.size mm.ag) mm g a := ⟨s.M.setA, Blk.rowFar s.F (by have := s.lt; omega), s.lt⟩
theorem Ec.alloc (s : Ec w wr m g a) (o : Obj) : Ec w (wr.alloc o) m g a := s.below ((Below.refl _ _).alloc (Nat.le_refl _) o)
theorem Ec.grown {A : Option Addr} {c : Nat} {xs : List Int} (s : Ec w wr m g a) (hO : Own wr (g + 1) A c xs) (hG : wr.grownBy w' (A.map (·.block))) : Ec w w' m g a := by
  have h1 := s.lt
  have h2 : g < wr.heap.size := Blk.lt s.F
  exact ⟨⟨Blk.grownA s.M.A hG (hO.ne_ (by omega)), Blk.grownA s.M.R hG (hO.ne_ (by omega)), below_grown s.M.bel (hO.more (base' := w.heap.size) (by omega)) hG (by omega)⟩, Blk.grownA s.F hG (hO.ne_ (by omega)), s.lt⟩
theorem Ec.glt (s : Ec w wr m g a) : g < wr.heap.size := Blk.lt s.F
end

set_option maxHeartbeats 4000000 in
theorem erase_any (m : Mm) (k : m.ok) (w : World) : Calls Tryd.prog 16 #[.agg m.ag] w (NewM w (coM m) (coY m) (errOf (goodM m))) := by
  have hR := results_mem3 (fn := Tryd.f16) (p := 2) (q := 3) (r := 4) rfl
  have S0 := hid (Ms.start w m)
  have K := hid k
  have KG := hid (fun W => good_any m k W)
  have KD := hid (fun W => show Calls Tryd.prog 36 #[.agg (ints m.r).toArray] W (Dirs W m.r) from direct_any m.r W k.r)
  have KX := hid (fun W => expand_any (dirL m.r) 32440 W (dirL_len _))
  have FR := hid (show coM m = if goodM m then msK (eraA m) m 2 else zeroM from rfl)
  have FY := hid (show coY m = if goodM m then ysK (eraA m) m 2 else [] from by unfold coY ysK ysK ysK; rfl)
  have hi8 : (Tryd.prog.info? 27).map (·.size) = some (ints m.r).length := by rw [ints_len, k.r]; exact size8'
  have HI8 := hid hi8
  have DL := hid (dirL_len m.r)
  have EL := hid (show (eraA m).length = 9 from exL_len _ _)
  clear k hi8
  go_enter Tryd.func16, Tryd.ntmps16
  go_wp2_with (refine wpList_loadM rfl (.tmp 1) rfl _ m rfl S0.out.A K.out ?_)
  refine (KG.out _).mono ?_
  rintro e w1 ⟨rfl, hB⟩
  have S1 := hid (S0.out.below hB)
  clear hB S0 KG
  cases hg : goodM m with
  | false =>
    have HG := hid hg
    clear hg
    have hRow := hid (MB.setRow S1.out.R zeroM)
    have FIN := hid (below_setRow S1.out.bel (g := w.heap.size + 1) (by omega) zeroM.ag)
    go_wp2_with (refine wpList_storeM rfl (.tmp 2) (.tmp 14) rfl _ zeroM zeroM rfl (congrArg Value.agg zeroM_ag) S1.out.R zeroM_ok zeroM_ok ?_)
    refine bodyPost_ret (v := _) (hR _ _ _ zeroM rfl hRow.out zeroM_ok) rfl ?_
    rw [FR.out, FY.out, HG.out]
    exact ⟨none, 0, rfl, Own.nil, FIN.out⟩
  | true =>
    have HG := hid hg
    clear hg
    go_wp2_with (refine wpList_load_mid rfl 27 (.tmp 16) rfl _ _ rfl (ints m.r) _ (S1.out.A.R K.out) Tryd.underlying27 rfl HI8.out ?_)
    refine (KD.out _).mono ?_
    rintro e w2 ⟨rfl, hB⟩
    have S2 := hid (S1.out.below hB)
    clear hB S1 KD
    obtain ⟨d, hd⟩ : ∃ d, d = dirL m.r := ⟨_, rfl⟩
    obtain ⟨a, ha⟩ : ∃ a, a = eraA m := ⟨_, rfl⟩
    have hx : exL d 32440 = a := by rw [ha, hd]; rfl
    have KX2 : ∀ W, Calls Tryd.prog 37 #[.agg (agi d), .int .i64 32440] W (fun e w' => e = .returned (.tuple #[.agg (agi a), .int .i64 (errOf (exB d 32440))]) ∧ Below W.heap.size W w') := fun W => by
      have := KX.out W
      unfold Exps at this
      rw [← hd, hx] at this
      exact this
    have KX2 := hid KX2
    clear KX
    rename_i KXr
    clear KXr
    rw [← hd] at DL ⊢
    rw [← ha] at FR FY EL
    clear hd ha hx
    go_wp2_with (first
      | (refine wpList_storeI rfl 69 (.tmp 5) (.tmp 19) rfl _ 69 Z9 d 9 rfl rfl (IB.new w2 69 Z9) size9 rfl DL.out ?_
         have B3 := below_stored w2 (.cells (agi Z9) 69) (agi d)
         obtain ⟨w3, hw3⟩ : ∃ w3, w3 = (w2.alloc (.cells (agi Z9) 69)).setRow w2.heap.size (agi d) := ⟨_, rfl⟩
         have S3 := hid (show Ms w w3 m by rw [hw3]; exact S2.out.below B3)
         have F3 := hid (show IB w3 w2.heap.size 69 d by rw [hw3]; exact IB.stored w2 69 Z9 d)
         rw [z9_eq] at hw3
         rw [← hw3]
         clear hw3 B3)
      | (refine wpList_loadI rfl 69 (.tmp 5) rfl _ 69 d 9 _ rfl F3.out Tryd.underlying69 rfl size9 DL.out ?_))
    refine (KX2.out _).mono ?_
    rintro e w4 ⟨rfl, hB⟩
    have S4 := hid (S3.out.below hB)
    have F4 := hid (Blk.below' F3.out hB)
    have GL := hid S2.out.lt
    obtain ⟨g5, hg5⟩ : ∃ g5, g5 = w2.heap.size := ⟨_, rfl⟩
    rw [← hg5] at F4 GL ⊢
    clear hB S2 S3 F3 hg5 KX2
    have E5 := hid (show Ec w (w4.setRow g5 (agi a)) m g5 a from ⟨⟨Blk.rowFar S4.out.A (by have := GL.out; omega), Blk.rowFar S4.out.R (by have := GL.out; omega), below_setRow S4.out.bel (by have := GL.out; omega) _⟩, IB.setRow F4.out a, GL.out⟩)
    go_wp2_with (refine wpList_storeI rfl 69 (.tmp 5) (.tmp 24) rfl _ 69 d a 9 rfl rfl F4.out size9 DL.out EL.out ?_)
    generalize w4.setRow g5 (agi a) = w5 at E5 ⊢
    clear S4 F4
    go_loopw [7, 26] (fun ov iv wr => ∃ (k : Nat) (A : Option Addr) (c n : Nat), k ≤ 2 ∧ iv = .int .i64 k ∧ ov = .slice A n c ∧ Hid ((ysK a m k).length = n) ∧ Hid (Own wr (g5 + 1) A c (ysK a m k)) ∧ Hid (Ec w wr (msK a m k) g5 a)) (fun _ iv _ => 2 - (intOf iv).toNat)
    case atStart => exact ⟨0, none, 0, 0, by omega, rfl, rfl, hid rfl, hid Own.nil, E5⟩
    case round =>
      clear E5
      obtain ⟨k, A, c, n, hk, rfl, rfl, HN, HO, HC⟩ := hrel
      by_cases hlt : k < 2
      · have KO := hid (msK_ok (a := a) K.out k)
        have KE := hid (fun W => erased_any (msK a m k) KO.out k W)
        have K1 := hid (eraR_ok KO.out (k : Int))
        have KP := hid (fun W A c (h : Rs W W.heap.size A (eraY (msK a m k) k)) => show Calls Tryd.prog 39 #[.agg (eraR (msK a m k) k).ag, .agg (agi a), .slice A (eraY (msK a m k) k).length c] W (PlayA W (stM a (msK a m k) k) (stY a (msK a m k) k)) from play_any (eraR (msK a m k) k) K1.out a _ A c _ W EL.out h rfl (eraY_len _ _))
        have K2 := hid (stM_ok KO.out a k)
        have YL := hid (stY_len a (msK a m k) k)
        have NM := hid (show msK a m (k + 1) = stM a (msK a m k) k from rfl)
        have NY := hid (show ysK a m (k + 1) = ysK a m k ++ stY a (msK a m k) k from rfl)
        have YN := hid (ysK_len a m k)
        generalize stM a (msK a m k) k = m2 at *
        generalize stY a (msK a m k) k = y at *
        generalize eraR (msK a m k) k = m1 at *
        generalize eraY (msK a m k) k = x at *
        generalize errOf (eraB (msK a m k) k) = er at *
        generalize msK a m k = mk at *
        generalize ysK a m k = ys at *
        go_wp2_with (refine wpList_loadM rfl (.tmp 1) rfl _ mk rfl HC.out.M.A KO.out ?_)
        refine (KE.out _).mono ?_
        rintro e w6 ⟨A6, c6, rfl, hO, hB⟩
        have C6 := hid (HC.out.below hB)
        have O6 := hid (HO.out.below hB)
        have SZ6 := hid hB.size
        have X6 := hid hO
        have GT := hid HC.out.glt
        clear hO hB HC HO KE
        have C7 := hid (C6.out.setA (mm := m1))
        have O7 := hid (O6.out.setRow (g := w.heap.size) (by have := C6.out.lt; omega) m1.ag)
        have X7 := hid (X6.out.setRow (g := w.heap.size) (by have := C6.out.lt; have := GT.out; omega) m1.ag).reads
        obtain ⟨w7, hw7⟩ : ∃ w7, w7 = w6.setRow w.heap.size m1.ag := ⟨_, rfl⟩
        rw [← hw7] at C7 O7 X7
        have HW7 := hid hw7
        clear hw7
        go_wp2_with (first
          | (refine wpList_storeM rfl (.tmp 1) (.tmp 33) rfl _ mk m1 rfl rfl C6.out.M.A KO.out K1.out ?_; rw [← HW7.out])
          | (refine wpList_loadM rfl (.tmp 1) rfl _ m1 rfl C7.out.M.A K1.out ?_)
          | (refine wpList_loadI rfl 69 (.tmp 5) rfl _ 69 a 9 _ rfl C7.out.F Tryd.underlying69 rfl size9 EL.out ?_))
        refine (KP.out _ _ _ X7.out).mono ?_
        rintro e w8 ⟨A8, c8, rfl, hO, hB⟩
        have C8 := hid (C7.out.below hB)
        have O8 := hid (O7.out.below hB)
        have GT8 := hid C7.out.glt
        have X8 := hid hO
        clear hO hB C6 C7 O6 O7 X6 X7 KP HW7
        have C9 := hid (C8.out.setA (mm := m2))
        have O9 := hid (O8.out.setRow (g := w.heap.size) (by have := C8.out.lt; omega) m2.ag)
        have X9 := hid (X8.out.setRow (g := w.heap.size) (by have := C8.out.lt; have := GT8.out; omega) m2.ag).reads
        obtain ⟨w9, hw9⟩ : ∃ w9, w9 = w8.setRow w.heap.size m2.ag := ⟨_, rfl⟩
        rw [← hw9] at C9 O9 X9
        have HW9 := hid hw9
        clear hw9
        have GT9 := hid C9.out.glt
        go_wp2_with (first
          | (refine wpList_storeM rfl (.tmp 1) (.tmp 41) rfl _ m1 m2 rfl rfl C8.out.M.A K1.out K2.out ?_; rw [← HW9.out])
          | (at_builtin; refine wpList_catN rfl (.tmp 43) (.tmp 44) rfl (g5 + 1) A c n ys rfl HN.out O9.out w9.heap.size A8 c8 y.length y rfl rfl X9.out (by have := YL.out; have := YN.out; have := HN.out; omega) (by have := GT9.out; omega) ?_; intro A10 c10 w10 hO hG hA; have C10 := hid (C9.out.grown O9.out hG); have O10 := hid hO; clear hO hG hA))
        go_roundw
        case rel => exact ⟨k + 1, A10, c10, n + y.length, by omega, by go_num, rfl, hid (by rw [NY.out, List.length_append, HN.out]), hid (by rw [NY.out]; exact O10.out), hid (by rw [NM.out]; exact C10.out)⟩
        case measure => simp [intOf] <;> omega
      · obtain rfl : k = 2 := by omega
        have OKS := hid (msK_ok (a := a) K.out 2)
        have hRow := hid (MB.setRow HC.out.M.R (msK a m 2))
        have FIN := hid (below_setRow HC.out.M.bel (g := w.heap.size + 1) (by omega) (msK a m 2).ag)
        have OF := hid ((HO.out.setRow (g := w.heap.size + 1) (by have := HC.out.lt; omega) (msK a m 2).ag).more (base' := w.heap.size) (by have := HC.out.lt; omega))
        generalize msK a m 2 = mf at *
        generalize ysK a m 2 = yf at *
        go_wp2_with (first
          | (refine wpList_loadM rfl (.tmp 1) rfl _ mf rfl HC.out.M.A OKS.out ?_)
          | (refine wpList_storeM rfl (.tmp 2) (.tmp 47) rfl _ zeroM mf rfl rfl HC.out.M.R zeroM_ok OKS.out ?_))
        refine bodyPost_ret (v := _) (hR _ _ _ mf rfl hRow.out OKS.out) rfl ?_
        rw [FR.out, FY.out, HG.out]
        exact ⟨A, c, by rw [if_pos rfl, if_pos rfl, HN.out]; rfl, by rw [if_pos rfl]; exact OF.out, FIN.out⟩
end Go.Proofs.YthoiikkjjaldnaaDoor
