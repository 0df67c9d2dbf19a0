/- Texts that the law rests on, laid together: PkH, PkGL, UnD, DeD, PushS, MxR, PowR, DirR, NewR, FiltR, GuessR, MakeR, DeR, DeP, DeQ, UnS. -/
import Derived.Test.YthoiikkjjaldnaaGreatDoorPkN
import Derived.Test.YthoiikkjjaldnaaGreatDoorZc4ecd7
import Derived.Test.YthoiikkjjaldnaaGreatDoorZ9e3f21
import Derived.Test.YthoiikkjjaldnaaGreatDoorZ685a03
import Derived.Test.YthoiikkjjaldnaaGreatDoorZa55587
import Derived.Deep.RegionHeld3
import Derived.Test.YthoiikkjjaldnaaGreatDoorZa53097
import Derived.Test.YthoiikkjjaldnaaGreatDoorZ203080
import Derived.Test.YthoiikkjjaldnaaGreatDoorBigMulO
import Derived.Test.YthoiikkjjaldnaaGreatDoorBigAddO
import Derived.Test.YthoiikkjjaldnaaGreatDoorZd3fc81
import Derived.Deep.RegionHeld
import Derived.Test.YthoiikkjjaldnaaGreatDoorBigSubO
/- The walk of the reference's GoodPacket. -/
namespace Go.Proofs.YthoiikkjjaldnaaGreatDoor
set_option linter.unusedVariables false
set_option linter.unusedSimpArgs false
set_option maxRecDepth 100000
open Go.RowKit

theorem size25 : (Tryz.prog.info? 38).map (·.size) = some 25 := by kernel_rfl
set_option maxHeartbeats 4000000 in
theorem refGoodP_any (ps : List Int) (w : World) (T : TabS w 0 widthL) (hl : ps.length = 25) :
    Calls Tryz.prog 28 #[.agg (agi ps)] w fun e w' => e = .returned (.bool (pkTo ps 25)) ∧ Below w.heap.size w w' := by
  have P0 := hid (IB.new w 38 ps)
  have B0 := hid ((Below.refl w.heap.size w).alloc (Nat.le_refl _) (.cells (agi ps) 38))
  have T0 := hid (T.below B0.out)
  have HL := hid hl
  clear T hl
  obtain ⟨V, hV⟩ : ∃ V, V = w.alloc (.cells (agi ps) 38) := ⟨_, rfl⟩
  rw [← hV] at P0 B0 T0
  have HV := hid hV
  clear hV
  have KN := hid (numbers_any ps V T0.out HL.out)
  go_enter Tryz.func28, Tryz.ntmps28
  go_wp2_with (first
    | (rw [← HV.out]; clear HV)
    | (refine wpList_loadI rfl 38 (.tmp 1) rfl _ 38 ps 25 _ rfl P0.out Tryz.underlying38 rfl size25 HL.out ?_)
    | (go_at_call 29; (with_reducible refine KN.out.mono ?_); rintro e w1 ⟨A1, c1, A2, c2, A3, c3, rfl, h1, h2, h3, hB⟩; have O1 := hid h1.reads; have O3 := hid h3.reads; have B1 := hid (B0.out.trans (hB.mono B0.out.size)); clear h1 h2 h3 hB))
  go_loopw [15] (fun iv wr => ∃ i : Nat, i ≤ 25 ∧ iv = .int .i64 i ∧ Hid (pkTo ps i = true) ∧ Hid (Below w1.heap.size w1 wr)) (fun iv _ => 25 - (intOf iv).toNat)
  case atStart => exact ⟨0, by omega, rfl, hid (pkTo_zero ps), hid (Below.refl _ _)⟩
  case round =>
    obtain ⟨i, hi, rfl, HP, HB⟩ := hrel
    by_cases hlt : i < 25
    · obtain ⟨ad, rfl, _, k0⟩ := (O1.out.below HB.out).at_ (k := i) (by rw [HL.out]; exact hlt)
      obtain ⟨ae, rfl, _, k1⟩ := (O3.out.below HB.out).at_ (k := i) (by rw [pkT_len]; exact hlt)
      have HN := hid (fun h => pkTo_not (ps := ps) hlt h)
      have HY := hid (fun h => pkTo_succ HP.out h)
      have HD := hid (show pkOk ps i ↔ 0 ≤ ps.getD i 0 ∧ ps.getD i 0 ≤ pkT.getD i 0 from Iff.rfl)
      generalize ps.getD i 0 = x at *
      generalize pkT.getD i 0 = t at *
      have i0 : (0 : Int) ≤ i := by omega
      have i25 : (i : Int) < 25 := by omega
      go_wp2
      by_cases hx : x < 0
      · have d0 : decide (x < 0) = true := by simpa using hx
        go_quiet (fail)
        go_wp2
        go_ret
        exact ⟨by rw [HN.out (fun h => by have := HD.out.1 h; omega)]; rfl, B1.out.trans ((HB.out.trans ((below_drN wr _).mono HB.out.size)).mono B1.out.size)⟩
      · have d0 : decide (x < 0) = false := by simpa using hx
        by_cases ht : t < x
        · have d1 : decide (t < x) = true := by simpa using ht
          go_quiet (fail)
          go_wp2
          go_ret
          exact ⟨by rw [HN.out (fun h => by have := HD.out.1 h; omega)]; rfl, B1.out.trans ((HB.out.trans ((below_drN wr _).mono HB.out.size)).mono B1.out.size)⟩
        · have d1 : decide (t < x) = false := by simpa using ht
          go_quiet (fail)
          go_wp2
          go_roundw
          case rel => exact ⟨i + 1, by omega, by go_num, hid (HY.out (HD.out.2 (by omega))), hid (HB.out.trans ((below_drN wr _).mono HB.out.size))⟩
          case measure => simp [intOf] <;> omega
    · obtain rfl : i = 25 := by omega
      go_wp2
      go_ret
      exact ⟨by rw [HP.out]; rfl, B1.out.trans (HB.out.mono B1.out.size)⟩
end Go.Proofs.YthoiikkjjaldnaaGreatDoor

/- The walk of the law PackGoods. -/
namespace Go.Proofs.YthoiikkjjaldnaaGreatDoor
set_option linter.unusedVariables false
set_option linter.unusedSimpArgs false
set_option maxRecDepth 100000
open Go.RowKit

/-- The packet's box and both tables, whatever else has been made. -/
structure PG (w W : World) (ps : List Int) : Prop where
  P : IB W w.heap.size 38 ps
  A : TabA W 3 widthL
  S : TabS W 0 widthL
  B : Below w.heap.size w W
theorem PG.below {w W W' : World} {ps : List Int} (s : PG w W ps) (hb : Below W.heap.size W W') : PG w W' ps :=
  ⟨Blk.below' s.P hb, s.A.below hb, s.S.below hb, s.B.trans (hb.mono s.B.size)⟩
theorem PG.drew {w W : World} {ps : List Int} (s : PG w W ps) : PG w W.drew ps := s.below ((Below.refl _ _).drew)
def Z25 : List Int := List.replicate 25 0
theorem z25_good : pkTo Z25 25 = true := by decide
theorem z25_len : Z25.length = 25 := rfl

end Go.Proofs.YthoiikkjjaldnaaGreatDoor

/- The walk of the program's Unpack. -/
namespace Go.Proofs.YthoiikkjjaldnaaGreatDoor
set_option linter.unusedVariables false
set_option linter.unusedSimpArgs false
set_option maxRecDepth 100000
open Go.RowKit

def UnOut (xs : List Int) (w : World) (e : Ending) (w' : World) : Prop := e = .returned (.tuple #[.agg (agi (unL xs)), .int .i64 (unE xs)]) ∧ Below w.heap.size w w'
theorem TwoP.weak {g h : Nat} {w w' : World} (a : TwoP g g w w') : TwoP g h w w' := ⟨a.os, a.tape, a.output, a.size, fun k h1 h2 _ => a.keep k h1 h2 h2⟩
theorem Rb.take {w : World} {B : Nat} {A : Option Addr} {xs : List Int} (h : Rb w B A xs) {k : Nat} (hk : k ≤ xs.length) : Rb w B A (xs.take k) := by
  have h1 := Reads.take h hk
  simp only [Nat.mul_one] at h1
  unfold Rb
  rw [List.length_take, Nat.min_eq_left hk]
  have e : bts (xs.take k) = (bts xs).take k := by simp [bts, List.map_take]
  rw [e]; exact h1
theorem Byts.take {xs : List Int} (h : Byts xs) (k : Nat) : Byts (xs.take k) := fun i => by
  have h2 := h i
  rw [List.getD_eq_getElem?_getD, List.getElem?_take]
  split
  · rw [← List.getD_eq_getElem?_getD]; exact h2
  · simp
theorem cell_far (w : World) (v : Value) {p q : Addr} (h : q.block ≠ p.block) : (w.setCell p v).cell? q = w.cell? q := by
  unfold World.cell?
  rw [Below.heap_setCell w p v q.block h]
theorem unL_bad {xs : List Int} (h : unE xs ≠ 0) : unL xs = Z25 := by unfold unL; rw [if_neg h]; rfl
/-- Behind the fields: the bits' state, the packet, the answer's box. -/
structure Unq (w : World) (gA : Nat) (A : Option Addr) (c : Nat) (xs : List Int) (n : Nat) (L : List Int) (wr : World) : Prop where
  U : Ust w.heap.size gA A c xs n wr
  I : IB wr (gA + 1) 38 L
  R : IB wr (w.heap.size + 1) 38 Z25
  B : Below w.heap.size w wr
  g : w.heap.size + 1 < gA
theorem Unq.get {w wr w' : World} {gA c n n' : Nat} {A : Option Addr} {xs L : List Int} (s : Unq w gA A c xs n L wr) (hU : Ust w.heap.size gA A c xs n' w') (hT : TwoP gA gA wr w') : Unq w gA A c xs n' L w' :=
  ⟨hU, hT.blk s.I (by omega) (by omega), hT.blk s.R (by have := s.g; omega) (by have := s.g; omega), s.B.trans (hT.below (B := w.heap.size) s.B.size (by have := s.g; omega) (by have := s.g; omega)), s.g⟩
theorem Unq.below {w wr w' : World} {gA c n : Nat} {A : Option Addr} {xs L : List Int} (s : Unq w gA A c xs n L wr) (hb : Below wr.heap.size wr w') : Unq w gA A c xs n L w' :=
  ⟨s.U.below hb, Blk.below' s.I hb, Blk.below' s.R hb, s.B.trans (hb.mono s.B.size), s.g⟩
def cellN' (w : World) (p : Addr) : Nat := match w.cell? p with
  | some (.int _ x) => x.toNat
  | _ => 0
theorem cellN'_of {w : World} {p : Addr} {x : Int} (h : w.cell? p = some (.int .i64 x)) : cellN' w p = x.toNat := by unfold cellN'; rw [h]
theorem rest_step {V k : Nat} (hk : k < 5) (h : V % 32 / 2 ^ (5 - k) = 0) : V % 32 / 2 ^ (5 - (k + 1)) = gt V (107 + k) 1 := by
  unfold gt
  rw [Nat.shiftRight_eq_div_pow]
  have : k = 0 ∨ k = 1 ∨ k = 2 ∨ k = 3 ∨ k = 4 := by omega
  rcases this with rfl | rfl | rfl | rfl | rfl
  · simp only [show (5 - 0 : Nat) = 5 from rfl, show (5 - (0 + 1) : Nat) = 4 from rfl, show (112 - (107 + 0) - 1 : Nat) = 4 from rfl, show (2 : Nat) ^ 5 = 32 from rfl, show (2 : Nat) ^ 4 = 16 from rfl, show (2 : Nat) ^ 1 = 2 from rfl] at *; omega
  · simp only [show (5 - 1 : Nat) = 4 from rfl, show (5 - (1 + 1) : Nat) = 3 from rfl, show (112 - (107 + 1) - 1 : Nat) = 3 from rfl, show (2 : Nat) ^ 4 = 16 from rfl, show (2 : Nat) ^ 3 = 8 from rfl, show (2 : Nat) ^ 1 = 2 from rfl] at *; omega
  · simp only [show (5 - 2 : Nat) = 3 from rfl, show (5 - (2 + 1) : Nat) = 2 from rfl, show (112 - (107 + 2) - 1 : Nat) = 2 from rfl, show (2 : Nat) ^ 3 = 8 from rfl, show (2 : Nat) ^ 2 = 4 from rfl, show (2 : Nat) ^ 1 = 2 from rfl] at *; omega
  · simp only [show (5 - 3 : Nat) = 2 from rfl, show (5 - (3 + 1) : Nat) = 1 from rfl, show (112 - (107 + 3) - 1 : Nat) = 1 from rfl, show (2 : Nat) ^ 2 = 4 from rfl, show (2 : Nat) ^ 1 = 2 from rfl] at *; omega
  · simp only [show (5 - 4 : Nat) = 1 from rfl, show (5 - (4 + 1) : Nat) = 0 from rfl, show (112 - (107 + 4) - 1 : Nat) = 0 from rfl, show (2 : Nat) ^ 1 = 2 from rfl, show (2 : Nat) ^ 0 = 1 from rfl] at *; omega
set_option maxHeartbeats 4000000 in
theorem packUnpack_any (A : Option Addr) (c n : Nat) (xs : List Int) (w : World) (T : TabA w 3 widthL) (hr : Rb w w.heap.size A xs) (hn : xs.length = n) (hc : n ≤ c) (hx : Byts xs) :
    Calls Tryz.prog 23 #[.slice A n c] w (UnOut xs w) := by
  have hmf : ∀ (fn : Fn) (first cap : Array Value) (w : World), (Instr.makeFunc fn first cap).run Tryz.prog w = .ok (.func fn first cap) w := fun _ _ _ _ => rfl
  have hR := results_row2 (fn := Tryz.f23) (p := 2) (q := 3) (ty := 38) rfl
  have B0 := ((Below.refl w.heap.size w).alloc (Nat.le_refl _) (.cells #[.slice A n c] 26)).alloc (by simp) (.cells (agi Z25) 38)
  have C0 := Blk.alloc (Blk.new w 26 #[.slice A n c]) (.cells (agi Z25) 38)
  have R0 := IB.new (w.alloc (.cells #[.slice A n c] 26)) 38 Z25
  simp only [World.size_alloc] at R0
  obtain ⟨V, hV⟩ : ∃ V, V = (w.alloc (.cells #[.slice A n c] 26)).alloc (.cells (agi Z25) 38) := ⟨_, rfl⟩
  have SV := hid (show V.heap.size = w.heap.size + 2 by rw [hV]; simp)
  rw [← hV] at B0 C0 R0
  have RX := hid R0
  have BX := hid B0
  have CX := hid C0
  have HR := hid (hr.below B0)
  have HX := hid hx
  have TX := hid (T.below B0)
  have cB : V.cell? ⟨w.heap.size, 0, none⟩ = some (.slice A n c) := Blk.cell C0 0
  have HV := hid hV
  have HT0 := hid T
  clear B0 C0 R0 hr hx T hV
  by_cases h15 : n ≠ 15
  · have HE := hid (show unE xs = 1 from by unfold unE; rw [if_pos (by rw [hn]; exact h15)])
    have d0 : ((n : Int) != 15) = true := by simp; omega
    have d1 : ¬ (n : Int) = 15 := by omega
    go_enter Tryz.func23, Tryz.ntmps23
    go_wp2_with (first
      | (rw [show (w.alloc (.cells #[.slice A n c] 26)).alloc (.cells #[.int .i64 0, .int .i64 0, .int .i64 0, .int .i64 0, .int .i64 0, .int .i64 0, .int .i64 0, .int .i64 0, .int .i64 0, .int .i64 0, .int .i64 0, .int .i64 0, .int .i64 0, .int .i64 0, .int .i64 0, .int .i64 0, .int .i64 0, .int .i64 0, .int .i64 0, .int .i64 0, .int .i64 0, .int .i64 0, .int .i64 0, .int .i64 0, .int .i64 0] 38) = V from HV.out.symm]; clear HV)
      | (refine wpList_storeI rfl 38 (.tmp 2) (.tmp 13) rfl _ 38 Z25 Z25 25 rfl rfl RX.out size25d rfl rfl ?_))
    have HZ := hid (unL_bad (xs := xs) (by rw [HE.out]; decide))
    refine bodyPost_ret (v := _) (hR _ _ _ 38 Z25 _ 25 rfl (IB.setRow RX.out Z25) Tryz.underlying38 rfl size25d rfl) rfl ?_
    exact ⟨by rw [HE.out, HZ.out]; rfl, below_setRow BX.out (Nat.le_succ _) _⟩
  · obtain rfl : n = 15 := by omega
    have HN := hid hn
    obtain ⟨ad, rfl, had, c14⟩ := HR.out.at_ (k := 14) (by rw [hn]; omega)
    have KS := hid (packSum_any (some ad) c 14 (xs.take 14) V.drew (show Rb V.drew V.heap.size (some ad) (xs.take 14) from (HR.out.more (by have := SV.out; omega)).take (by rw [hn]; omega)) (by rw [List.length_take, hn]; rfl) (by omega) (HX.out.take 14))
    have hci : (14 : Int) ≤ (c : Int) := by omega
    have c14 : V.cell? ⟨ad.block, ad.off + 14, none⟩ = some (.int .u8 (xs.getD 14 0)) := by rw [Addr.add_succ'] at c14; exact c14
    have i14 : (14 : Int) < 15 := by omega
    have hEE : unE xs = if chk (xs.take 14) ≠ xs.getD 14 0 then 5 else if unV xs % 32 ≠ 0 then 3 else if pkTo (uL (unV xs) 25) 25 = false then 2 else if pkPar (uL (unV xs) 25) ≠ (unV xs / 32 % 2 : Nat) then 3 else 0 := by
      unfold unE
      rw [if_neg (by rw [hn]; simp)]
    have hcr : 14 ≤ c := by omega
    clear hn h15
    go_enter Tryz.func23, Tryz.ntmps23
    go_wp2_with (rw [show (w.alloc (.cells #[.slice (some ad) 15 c] 26)).alloc (.cells #[.int .i64 0, .int .i64 0, .int .i64 0, .int .i64 0, .int .i64 0, .int .i64 0, .int .i64 0, .int .i64 0, .int .i64 0, .int .i64 0, .int .i64 0, .int .i64 0, .int .i64 0, .int .i64 0, .int .i64 0, .int .i64 0, .int .i64 0, .int .i64 0, .int .i64 0, .int .i64 0, .int .i64 0, .int .i64 0, .int .i64 0, .int .i64 0, .int .i64 0] 38) = V from HV.out.symm]; clear HV)
    by_cases hck : chk (xs.take 14) = xs.getD 14 0
    · rw [if_neg (by rw [hck]; simp)] at hEE
      have HE := hid hEE
      have d0 : (chk (xs.take 14) != xs.getD 14 0) = false := by rw [hck]; simp
      have d1 : decide (chk (xs.take 14) = xs.getD 14 0) = true := by simpa using hck
      have HCK := hid hck
      clear hEE
      generalize chk (xs.take 14) = ck at *
      generalize xs.getD 14 0 = x14 at *
      clear hck
      go_region_held3 (fun w' => w'.cell? ⟨ad.block, ad.off + 14, none⟩ = some (.int .u8 x14) ∧ w'.cell? ⟨w.heap.size, 0, none⟩ = some (.slice (some ad) 15 c)) (go_keep) (first
        | (go_at_call 62; (with_reducible refine KS.out.mono ?_); rintro e' w' ⟨rfl, rfl⟩))
      rename_i hHeldZ
      clear hHeldZ
      try simp only [Exit.then]
      obtain ⟨W, hW⟩ : ∃ W, W = V.drew := ⟨_, rfl⟩
      have SW := hid (show W.heap.size = w.heap.size + 2 from by rw [hW]; exact SV.out)
      have RW := hid (show IB W (w.heap.size + 1) 38 Z25 from by rw [hW]; exact RX.out)
      have CW := hid (show Blk W w.heap.size 26 #[.slice (some ad) 15 c] from by rw [hW]; exact CX.out)
      have LW := hid (show Rb W w.heap.size (some ad) xs from by rw [hW]; exact HR.out.more (by omega))
      have BW := hid (show Below w.heap.size w W from by rw [hW]; exact BX.out.drew)
      have TW := hid (show TabA W 3 widthL from by rw [hW]; exact TX.out.below ((Below.refl _ _).drew))
      rw [← hW]
      clear hW RX CX HR BX TX SV KS cB c14 hci
      have L2 := ((Below.refl W.heap.size W).alloc (Nat.le_refl _) (.cells #[.int .i64 0] 3)).alloc (by simp) (.cells (agi Z25) 38)
      have A2 := Blk.alloc (Blk.new W 3 #[.int .i64 0]) (.cells (agi Z25) 38)
      have P2 := IB.new (W.alloc (.cells #[.int .i64 0] 3)) 38 Z25
      simp only [World.size_alloc] at P2
      obtain ⟨W2, hW2⟩ : ∃ W2, W2 = (W.alloc (.cells #[.int .i64 0] 3)).alloc (.cells (agi Z25) 38) := ⟨_, rfl⟩
      rw [← hW2] at L2 A2 P2
      have U2 := hid (show Ust w.heap.size W.heap.size (some ad) c xs 0 W2 from ⟨LW.out.below (L2.mono (by have := SW.out; omega)), Blk.below' CW.out L2, A2, by have := SW.out; omega⟩)
      have P2 := hid P2
      have R2 := hid (Blk.below' RW.out L2)
      have T2 := hid (TW.out.below L2)
      have B2 := hid (BW.out.trans (L2.mono BW.out.size))
      have HW2 := hid hW2
      clear L2 A2 hW2 RW CW LW BW TW
      go_wp2_with (rw [show (W.alloc (.cells #[.int .i64 0] 3)).alloc (.cells #[.int .i64 0, .int .i64 0, .int .i64 0, .int .i64 0, .int .i64 0, .int .i64 0, .int .i64 0, .int .i64 0, .int .i64 0, .int .i64 0, .int .i64 0, .int .i64 0, .int .i64 0, .int .i64 0, .int .i64 0, .int .i64 0, .int .i64 0, .int .i64 0, .int .i64 0, .int .i64 0, .int .i64 0, .int .i64 0, .int .i64 0, .int .i64 0, .int .i64 0] 38) = W2 from HW2.out.symm]; clear HW2)
      refine (fields_any (W.heap.size + 1) W2 T2.out).mono ?_
      rintro e w4 ⟨A4, c4, rfl, hO, hB⟩
      obtain ⟨b, rfl, hb1, hb2, hb3⟩ := OwnF.at_ hO (by omega)
      have HC := hid hb3
      have P4 := hid (Blk.below' P2.out hB)
      have R4 := hid (Blk.below' R2.out hB)
      have B4 := hid (B2.out.trans (hB.mono B2.out.size))
      have U4 := hid (U2.out.below hB)
      have T4 := hid (T2.out.below hB)
      have LB3 := hid (show W.heap.size + 1 < b from by have := Blk.lt P2.out; omega)
      clear hO hB hb1 hb2 hb3 P2 R2 B2 U2 T2
      have U4 := hid (show Ust w.heap.size W.heap.size (some ad) c xs (pkA 0) w4 from U4.out)
      have P4 := hid (show IB w4 (W.heap.size + 1) 38 (uL (unV xs) 0) from by rw [uL_zero]; exact P4.out)
      go_wp2
      go_loopw [25] (fun iv wr => ∃ i : Nat, i ≤ 25 ∧ iv = .int .i64 i ∧ Hid (Ust w.heap.size W.heap.size (some ad) c xs (pkA i) wr) ∧ Hid (IB wr (W.heap.size + 1) 38 (uL (unV xs) i)) ∧ Hid (TwoP W.heap.size (W.heap.size + 1) w4 wr)) (fun iv _ => 25 - (intOf iv).toNat)
      case atStart => exact ⟨0, by omega, rfl, U4, P4, hid (TwoP.refl _ _ _)⟩
      case round =>
        clear U4 P4
        obtain ⟨i, hi, rfl, HU, HI, HT⟩ := hrel
        by_cases hlt : i < 25
        · obtain ⟨f0, f1, f2⟩ := HC.out i hlt
          have hlb := LB3.out
          have nb1 : b ≠ W.heap.size := by omega
          have nb2 : b ≠ W.heap.size + 1 := by omega
          have c0 : wr.cell? ⟨b, i * 3, none⟩ = some (.pointer (some ⟨W.heap.size + 1, i, none⟩)) := by rw [Nat.mul_comm]; exact HT.out.cell f0 nb1 nb2
          have c1 : wr.cell? ⟨b, i * 3 + 1, none⟩ = some (.int .i64 (pkB.getD i 0)) := by rw [Nat.mul_comm]; exact HT.out.cell f1 nb1 nb2
          have c2 : wr.cell? ⟨b, i * 3 + 2, none⟩ = some (.int .i64 (pkT.getD i 0)) := by rw [Nat.mul_comm]; exact HT.out.cell f2 nb1 nb2
          obtain ⟨hn1, hn2, _⟩ := pkN_le hlt
          have ha := pkA_le (n := i + 1) (by omega)
          have SY := hid (show pkA (i + 1) = pkA i + pkN i from rfl)
          have SU := hid (show uF (unV xs) i = gt (unV xs) (pkA i) (pkN i) from rfl)
          have HSet := hid (uL_set (unV xs) hlt)
          rw [SY.out] at ha
          rw [hn2] at c1
          have hpl := (cell_lt3 c0)
          have hgl := Blk.lt HI.out
          generalize pkN i = n at *
          generalize pkT.getD i 0 = t at *
          have i0 : (0 : Int) ≤ i := by omega
          have i25 : (i : Int) < 25 := by omega
          obtain ⟨Y, hY⟩ : ∃ Y, Y = wr.alloc (.cells #[.pointer (some ⟨W.heap.size + 1, i, none⟩), .int .i64 (n : Nat), .int .i64 t] 122) := ⟨_, rfl⟩
          have LY : Below wr.heap.size wr Y := by rw [hY]; exact (Below.refl _ _).alloc (Nat.le_refl _) _
          have q0 : Y.cell? ⟨wr.heap.size, 0, none⟩ = some (.pointer (some ⟨W.heap.size + 1, i, none⟩)) := by rw [hY]; exact Blk.cell (Blk.new wr _ _) 0
          have q1 : Y.cell? ⟨wr.heap.size, 1, none⟩ = some (.int .i64 (n : Nat)) := by rw [hY]; exact Blk.cell (Blk.new wr _ _) 1
          have UY := hid (HU.out.below LY)
          have IY := hid (Blk.below' HI.out LY)
          have TY := hid (HT.out.trans (TwoP.of_below LY))
          have nr1 : wr.heap.size ≠ W.heap.size := by omega
          have nr2 : wr.heap.size ≠ W.heap.size + 1 := by omega
          have nr3 : ¬ W.heap.size + 1 = wr.heap.size := by omega
          have KU := hid (get_any w.heap.size W.heap.size c (pkA i) n (some ad) xs Y.drew (UY.out.drewN 1) HX.out HN.out (by omega) hn1 (by omega))
          clear f0 f1 f2 hn2
          go_wp2
          rw [← hY]
          clear hY c0 c1 c2 LY
          go_region_held3 (fun w' => w'.cell? ⟨wr.heap.size, 0, none⟩ = some (.pointer (some ⟨W.heap.size + 1, i, none⟩)) ∧ w'.cell? ⟨wr.heap.size, 1, none⟩ = some (.int .i64 (n : Nat))) (first | go_keep | (refine ⟨?_, ?_⟩; (refine (cell_far _ _ nr2).trans ?_; assumption); (refine (cell_far _ _ nr2).trans ?_; assumption))) (first
            | (go_at_call 63; (with_reducible refine KU.out.mono ?_); rintro e' w5 ⟨rfl, hS, hT⟩; have k0 := hT.cell (p := ⟨wr.heap.size, 0, none⟩) q0 nr1 nr1; have k1 := hT.cell (p := ⟨wr.heap.size, 1, none⟩) q1 nr1 nr1; have S5 := hid hS; have I5 := hid (hT.blk (Blk.drew IY.out) (by omega) (by omega)); have T5 := hid (TY.out.drew.trans hT.weak); have ip := IB.cell I5.out i (by rw [uL_len]; exact hlt); have fp := Blk.frozen I5.out i; clear hS hT))
          rename_i hHeldZ
          clear hHeldZ k0 k1 q0 q1 ip fp
          try simp only [Exit.then]
          have U6 := hid (show Ust w.heap.size W.heap.size (some ad) c xs (pkA (i + 1)) (w5.setCell ⟨W.heap.size + 1, i, none⟩ (.int .i64 (gt (unV xs) (pkA i) n : Nat))) from by rw [SY.out]; exact S5.out.far (by show w.heap.size < W.heap.size + 1; have := SW.out; omega) (by show W.heap.size ≠ W.heap.size + 1; omega) _)
          have I6 := hid (show IB (w5.setCell ⟨W.heap.size + 1, i, none⟩ (.int .i64 (gt (unV xs) (pkA i) n : Nat))) (W.heap.size + 1) 38 (uL (unV xs) (i + 1)) from by rw [← HSet.out, SU.out]; exact IB.set_ I5.out i _)
          have T6 := hid (T5.out.set2 i (.int .i64 (gt (unV xs) (pkA i) n : Nat)))
          go_wp2
          go_roundw
          case rel => exact ⟨i + 1, by omega, by go_num, U6, I6, T6⟩
          case measure => simp [intOf] <;> omega
        · obtain rfl : i = 25 := by omega
          try rw [show ((25 : Nat) : Int) = 25 from rfl]
          rw [pkA_end] at HU
          have S0 := hid (show Unq w W.heap.size (some ad) c xs 106 (uL (unV xs) 25) wr from
            ⟨HU.out, HI.out, HT.out.blk R4.out (by have := SW.out; omega) (by have := SW.out; omega), B4.out.trans (HT.out.below (B := w.heap.size) (by have := B4.out.size; exact this) (by have := SW.out; omega) (by have := SW.out; omega)), by have := SW.out; omega⟩)
          have KQ := hid (fun W' (S : Ust w.heap.size W.heap.size (some ad) c xs 106 W') => show Calls Tryz.prog 63 #[.int .i64 1, .pointer (some ⟨w.heap.size, 0, none⟩), .pointer (some ⟨W.heap.size, 0, none⟩)] W' (fun e w' => e = .returned (.int .i64 (gt (unV xs) 106 1 : Nat)) ∧ Ust w.heap.size W.heap.size (some ad) c xs (106 + 1) w' ∧ TwoP W.heap.size W.heap.size W' w') from get_any w.heap.size W.heap.size c 106 1 (some ad) xs W' S HX.out HN.out (by omega) (by omega) (by omega))
          have KR := hid (fun K W' (S : Ust w.heap.size W.heap.size (some ad) c xs K W') (hK : K + 1 ≤ 112) => show Calls Tryz.prog 63 #[.int .i64 1, .pointer (some ⟨w.heap.size, 0, none⟩), .pointer (some ⟨W.heap.size, 0, none⟩)] W' (fun e w' => e = .returned (.int .i64 (gt (unV xs) K 1 : Nat)) ∧ Ust w.heap.size W.heap.size (some ad) c xs (K + 1) w' ∧ TwoP W.heap.size W.heap.size W' w') from get_any w.heap.size W.heap.size c K 1 (some ad) xs W' S HX.out HN.out (by omega) (by omega) hK)
          have KG := hid (fun W' (h : TabA W' 3 widthL) => packGood_any (uL (unV xs) 25) W' h (uL_len _ _))
          have KP := hid (fun W' => packParity_any (uL (unV xs) 25) W' (uL_len _ _) (uL_64 _ _))
          rw [gt_par] at KQ
          clear HU HI HT R4 B4 T4 HC
          generalize unV xs / 32 % 2 = pq at *
          go_wp2_with (go_at_call 63; (with_reducible refine (KQ.out wr S0.out.U).mono ?_); rintro e' w5 ⟨rfl, hS, hT⟩; have S1 := hid (S0.out.get hS hT); clear hS hT)
          go_loopw [] (fun wr => ∃ k : Nat, k ≤ 5 ∧ Hid (Unq w W.heap.size (some ad) c xs (107 + k) (uL (unV xs) 25) wr) ∧ Hid (unV xs % 32 / 2 ^ (5 - k) = 0)) (fun wr => 112 - cellN' wr ⟨W.heap.size, 0, none⟩)
          case atStart => exact ⟨0, by omega, S1, hid (Nat.div_eq_of_lt (Nat.mod_lt _ (by decide)))⟩
          case round =>
            clear S0 S1
            obtain ⟨k, hk, SX, HD⟩ := hrel
            have cA : wr.cell? ⟨W.heap.size, 0, none⟩ = some (.int .i64 ((107 + k : Nat) : Int)) := Blk.cell SX.out.U.A 0
            have MA := hid (cellN'_of cA)
            by_cases hk5 : k < 5
            · have HB := hid (rest_step hk5 HD.out)
              have ul := gt_lt (unV xs) (107 + k) 1
              have KK := hid (KR.out (107 + k) wr SX.out.U (by omega))
              generalize gt (unV xs) (107 + k) 1 = u at *
              obtain ⟨K, hK⟩ : ∃ K, K = 107 + k := ⟨_, rfl⟩
              rw [← hK] at cA KK SX MA
              have hK112 : (K : Int) < 112 := by omega
              by_cases hu : u = 1
              · subst hu
                have HE2 := hid (show unE xs = 3 from by
                  rw [HE.out, if_pos]
                  intro h0
                  have := HB.out
                  rw [h0] at this
                  simp at this)
                have HE := HE2
                have HZ := hid (unL_bad (xs := xs) (by rw [HE.out]; decide))
                go_wp2_with (first
                  | (go_at_call 63; (with_reducible refine KK.out.mono ?_); rintro e' w6 ⟨rfl, hS, hT⟩; have S6 := hid (SX.out.get hS hT); clear hS hT)
                  | (refine wpList_storeI rfl 38 (.tmp 2) (.tmp 44) rfl _ 38 Z25 Z25 25 rfl rfl S6.out.R size25d rfl rfl ?_))
                refine bodyPost_ret (v := _) (hR _ _ _ 38 Z25 _ 25 rfl (IB.setRow S6.out.R Z25) Tryz.underlying38 rfl size25d rfl) rfl ?_
                exact ⟨by rw [HE.out, HZ.out]; rfl, below_setRow S6.out.B (Nat.le_succ _) _⟩
              · obtain rfl : u = 0 := by omega
                go_wp2_with (go_at_call 63; (with_reducible refine KK.out.mono ?_); rintro e' w6 ⟨rfl, hS, hT⟩; have S6 := hid (SX.out.get hS hT); clear hS hT)
                have M6 := hid (cellN'_of (Blk.cell S6.out.U.A 0))
                go_roundw
                case rel => exact ⟨k + 1, by omega, hid (by rw [show 107 + (k + 1) = K + 1 by omega]; exact S6.out), hid HB.out⟩
                case measure =>
                  rw [M6.out, MA.out]
                  omega
            · obtain rfl : k = 5 := by omega
              have hD := HD.out
              simp only [Nat.sub_self, Nat.pow_zero, Nat.div_one] at hD
              have cA : wr.cell? ⟨W.heap.size, 0, none⟩ = some (.int .i64 112) := cA
              have HE1 := HE.out
              rw [if_neg (by rw [hD]; simp)] at HE1
              have TG := hid (HT0.out.below SX.out.B)
              have KG := KG.out wr TG.out
              by_cases hg : pkTo (uL (unV xs) 25) 25 = true
              · rw [hg] at KG
                rw [if_neg (by rw [hg]; simp)] at HE1
                have KG := hid KG
                by_cases hp : pkPar (uL (unV xs) 25) = (pq : Nat)
                · have HE := hid (show unE xs = 0 from by rw [HE1, if_neg (by rw [hp]; simp)])
                  have HZ := hid (show unL xs = uL (unV xs) 25 from by unfold unL; rw [if_pos HE.out])
                  rw [hp] at KP
                  clear HE1 hD hg hp MA HD
                  go_wp2_with (first
                    | (refine wpList_loadI rfl 38 (.tmp 6) rfl _ 38 (uL (unV xs) 25) 25 _ rfl SX.out.I Tryz.underlying38 rfl size25d (uL_len _ _) ?_)
                    | (go_at_call 65; (with_reducible refine KG.out.mono ?_); rintro e' w7 ⟨rfl, hB⟩; have S7 := hid (SX.out.below hB); clear hB)
                    | (refine wpList_loadI rfl 38 (.tmp 6) rfl _ 38 (uL (unV xs) 25) 25 _ rfl S7.out.I Tryz.underlying38 rfl size25d (uL_len _ _) ?_)
                    | (go_at_call 66; (with_reducible refine (KP.out w7).mono ?_); rintro e' w8 ⟨rfl, hB⟩; have S8 := hid (S7.out.below hB); clear hB)
                    | (refine wpList_loadI rfl 38 (.tmp 6) rfl _ 38 (uL (unV xs) 25) 25 _ rfl S8.out.I Tryz.underlying38 rfl size25d (uL_len _ _) ?_)
                    | (refine wpList_storeI rfl 38 (.tmp 2) (.tmp 54) rfl _ 38 Z25 (uL (unV xs) 25) 25 rfl rfl S8.out.R size25d rfl (uL_len _ _) ?_))
                  refine bodyPost_ret (v := _) (hR _ _ _ 38 (uL (unV xs) 25) _ 25 rfl (IB.setRow S8.out.R (uL (unV xs) 25)) Tryz.underlying38 rfl size25d (uL_len _ _)) rfl ?_
                  exact ⟨by rw [HE.out, HZ.out]; rfl, below_setRow S8.out.B (Nat.le_succ _) _⟩
                · have HE9 := hid (show unE xs = 3 from by rw [HE1, if_pos hp])
                  have HZ9 := hid (unL_bad (xs := xs) (by rw [HE9.out]; decide))
                  have hne : (((pq : Nat) : Int) != pkPar (uL (unV xs) 25)) = true := by rw [bne_iff_ne]; exact fun h => hp h.symm
                  have hne2 : ¬ ((pq : Nat) : Int) = pkPar (uL (unV xs) 25) := fun h => hp h.symm
                  generalize pkPar (uL (unV xs) 25) = pr at *
                  clear HE1 hD hg hp MA HD
                  go_wp2_with (first
                    | (refine wpList_loadI rfl 38 (.tmp 6) rfl _ 38 (uL (unV xs) 25) 25 _ rfl SX.out.I Tryz.underlying38 rfl size25d (uL_len _ _) ?_)
                    | (go_at_call 65; (with_reducible refine KG.out.mono ?_); rintro e' w7 ⟨rfl, hB⟩; have S7 := hid (SX.out.below hB); clear hB)
                    | (refine wpList_loadI rfl 38 (.tmp 6) rfl _ 38 (uL (unV xs) 25) 25 _ rfl S7.out.I Tryz.underlying38 rfl size25d (uL_len _ _) ?_)
                    | (go_at_call 66; (with_reducible refine (KP.out w7).mono ?_); rintro e' w8 ⟨rfl, hB⟩; have S8 := hid (S7.out.below hB); clear hB)
                    | (refine wpList_storeI rfl 38 (.tmp 2) (.tmp 53) rfl _ 38 Z25 Z25 25 rfl rfl S8.out.R size25d rfl rfl ?_))
                  refine bodyPost_ret (v := _) (hR _ _ _ 38 Z25 _ 25 rfl (IB.setRow S8.out.R Z25) Tryz.underlying38 rfl size25d rfl) rfl ?_
                  exact ⟨by rw [HE9.out, HZ9.out]; rfl, below_setRow S8.out.B (Nat.le_succ _) _⟩
              · have hgf : pkTo (uL (unV xs) 25) 25 = false := by simpa using hg
                rw [hgf] at KG
                rw [if_pos hgf] at HE1
                have KG := hid KG
                have HE := hid HE1
                have HZ := hid (unL_bad (xs := xs) (by rw [HE.out]; decide))
                clear HE1 hD hg hgf MA HD
                go_wp2_with (first
                  | (refine wpList_loadI rfl 38 (.tmp 6) rfl _ 38 (uL (unV xs) 25) 25 _ rfl SX.out.I Tryz.underlying38 rfl size25d (uL_len _ _) ?_)
                  | (go_at_call 65; (with_reducible refine KG.out.mono ?_); rintro e' w7 ⟨rfl, hB⟩; have S7 := hid (SX.out.below hB); clear hB)
                  | (refine wpList_storeI rfl 38 (.tmp 2) (.tmp 48) rfl _ 38 Z25 Z25 25 rfl rfl S7.out.R size25d rfl rfl ?_))
                refine bodyPost_ret (v := _) (hR _ _ _ 38 Z25 _ 25 rfl (IB.setRow S7.out.R Z25) Tryz.underlying38 rfl size25d rfl) rfl ?_
                exact ⟨by rw [HE.out, HZ.out]; rfl, below_setRow S7.out.B (Nat.le_succ _) _⟩
    · rw [if_pos hck] at hEE
      have HE := hid hEE
      have d0 : (chk (xs.take 14) != xs.getD 14 0) = true := by rw [bne_iff_ne]; exact hck
      clear hEE
      generalize chk (xs.take 14) = ck at *
      generalize xs.getD 14 0 = x14 at *
      go_region_held3 (fun w' => w'.cell? ⟨ad.block, ad.off + 14, none⟩ = some (.int .u8 x14) ∧ w'.cell? ⟨w.heap.size, 0, none⟩ = some (.slice (some ad) 15 c)) (go_keep) (first
        | (go_at_call 62; (with_reducible refine KS.out.mono ?_); rintro e' w' ⟨rfl, rfl⟩))
      rename_i hHeldZ
      clear hHeldZ
      try simp only [Exit.then]
      have RY := hid (show IB (V.drew) (w.heap.size + 1) 38 Z25 from RX.out)
      have BY := hid (show Below w.heap.size w (V.drew) from ⟨BX.out.os, BX.out.tape, BX.out.output, BX.out.size, BX.out.block⟩)
      have HZ := hid (unL_bad (xs := xs) (by rw [HE.out]; decide))
      go_wp2_with (refine wpList_storeI rfl 38 (.tmp 2) (.tmp 21) rfl _ 38 Z25 Z25 25 rfl rfl RY.out size25d rfl rfl ?_)
      refine bodyPost_ret (v := _) (hR _ _ _ 38 Z25 _ 25 rfl (IB.setRow RY.out Z25) Tryz.underlying38 rfl size25d rfl) rfl ?_
      exact ⟨by rw [HE.out, HZ.out]; rfl, below_setRow BY.out (Nat.le_succ _) _⟩
end Go.Proofs.YthoiikkjjaldnaaGreatDoor

/- Package coder's Decode. -/
namespace Go.Proofs.YthoiikkjjaldnaaGreatDoor
set_option linter.unusedVariables false
set_option linter.unusedSimpArgs false
set_option maxRecDepth 100000
open Go.RowKit

theorem storedP (w : World) (ps : List Int) : IB ((w.alloc (.cells (agi Z25) 38)).setRow w.heap.size (agi ps)) w.heap.size 38 ps := IB.stored w 38 Z25 ps
theorem z25_eq : agi Z25 = #[.int .i64 0, .int .i64 0, .int .i64 0, .int .i64 0, .int .i64 0, .int .i64 0, .int .i64 0, .int .i64 0, .int .i64 0, .int .i64 0, .int .i64 0, .int .i64 0, .int .i64 0, .int .i64 0, .int .i64 0, .int .i64 0, .int .i64 0, .int .i64 0, .int .i64 0, .int .i64 0, .int .i64 0, .int .i64 0, .int .i64 0, .int .i64 0, .int .i64 0] := rfl
theorem NewM.bad {w w' : World} {er : Int} (hB : Below w.heap.size w w') : NewM w zeroM [] er (.returned (.tuple #[.agg zeroM.ag, .slice none 0 0, .int .i64 er])) w' := ⟨none, 0, rfl, Own.nil, hB⟩

set_option maxHeartbeats 4000000 in
theorem decode_any (m : Mm) (k : m.ok) (A : Option Addr) (c n : Nat) (xs : List Int) (w : World) (T1 : TabA w 4 rootsL) (T2 : TabA w 2 gainsL) (T3 : TabA w 3 widthL)
    (hr : Rb w w.heap.size A xs) (hn : xs.length = n) (hc : n ≤ c) (hx : Byts xs) : Calls Tryz.prog 6 #[.agg m.ag, .slice A n c] w (NewM w (deM m xs) (deY m xs) (deE m xs)) := by
  have hR := results_mem3 (fn := Tryz.f6) (p := 4) (q := 5) (r := 6) rfl
  have S0 := hid (Ms.start w m)
  have K := hid k
  have KG := hid (fun W => good_any m k W)
  have KU := hid (fun W (h : Below w.heap.size w W) => packUnpack_any A c n xs W (T3.below h) ((hr.below h).more h.size) hn hc hx)
  unfold UnOut at KU
  have FE := hid (show deE m xs = if goodM m = true then unE xs else 2 from rfl)
  have FM := hid (fun (h : deE m xs ≠ 0) => show deM m xs = zeroM from by unfold deM; rw [if_neg h])
  have FY := hid (fun (h : deE m xs ≠ 0) => show deY m xs = [] from by unfold deY; rw [if_neg h])
  have FM0 := hid (fun (h : deE m xs = 0) => show deM m xs = frM m (unL xs) from by unfold deM; rw [if_pos h])
  have FY0 := hid (fun (h : deE m xs = 0) => show deY m xs = frO m (unL xs) from by unfold deY; rw [if_pos h])
  have UL := hid (unL_len xs)
  have UE := hid (fun (h : unE xs = 0) => unE_to h)
  have TT := hid (⟨T1, T2, T3⟩ : TabA w 4 rootsL ∧ TabA w 2 gainsL ∧ TabA w 3 widthL)
  have OKF := hid (fun (h : unE xs = 0) => frM_ok k (unE_to h) (unL_len xs))
  have KFR := hid (fun W (h : Below w.heap.size w W) (g : goodM m = true) (he : unE xs = 0) => frame_any m k g (unL xs) W (T1.below h) (T2.below h) (T3.below h) (unE_to he) (unL_len xs))
  clear k hr hn hc hx T1 T2 T3
  go_enter Tryz.func6, Tryz.ntmps6
  go_wp2_with (refine wpList_loadM rfl (.tmp 2) rfl _ m rfl S0.out.A K.out ?_)
  with_reducible refine (KG.out _).mono ?_
  rintro e w1 ⟨rfl, hB⟩
  have S1 := hid (S0.out.below hB)
  clear hB S0 KG
  cases hg : goodM m with
  | false =>
    have HE := hid (show deE m xs = 2 from by rw [FE.out, hg]; rfl)
    clear hg
    have hRow := hid (MB.setRow S1.out.R zeroM)
    have FIN := hid (below_setRow S1.out.bel (g := w.heap.size + 1) (by omega) zeroM.ag)
    go_wp2_with (refine wpList_storeM rfl (.tmp 4) (.tmp 13) rfl _ zeroM zeroM rfl (congrArg Value.agg zeroM_ag) S1.out.R zeroM_ok zeroM_ok ?_)
    refine bodyPost_ret (v := _) (hR _ _ _ zeroM rfl hRow.out zeroM_ok) rfl ?_
    rw [FM.out (by rw [HE.out]; decide), FY.out (by rw [HE.out]; decide), HE.out]
    exact NewM.bad FIN.out
  | true =>
    have HG := hid hg
    have FE := hid (show deE m xs = unE xs from by rw [FE.out, hg]; rfl)
    clear hg
    go_wp2_with fail
    with_reducible refine (KU.out w1 S1.out.bel).mono ?_
    rintro e w2 ⟨rfl, hB⟩
    have S2 := hid (S1.out.below hB)
    clear hB S1 KU
    by_cases he : unE xs = 0
    · have HE := hid (show deE m xs = 0 from by rw [FE.out, he])
      have KF2 := hid (fun W h => KFR.out W h HG.out he)
      have OK2 := hid (OKF.out he)
      have FM2 := hid (FM0.out HE.out)
      have FY2 := hid (FY0.out HE.out)
      have LO := hid (frO_len m (unL xs))
      rw [he]
      clear he UE FM0 FY0 FM FY KFR OKF FE
      generalize unL xs = ps at *
      generalize frM m ps = mf at *
      generalize frO m ps = yf at *
      go_wp2_with (first
        | (refine wpList_storeI rfl 38 (.tmp 7) (.tmp 17) rfl _ 38 Z25 ps 25 rfl rfl (IB.new w2 38 Z25) size25d rfl UL.out ?_
           have BB := below_stored w2 (.cells (agi Z25) 38) (agi ps)
           obtain ⟨V3, hV⟩ : ∃ V3, V3 = (w2.alloc (.cells (agi Z25) 38)).setRow w2.heap.size (agi ps) := ⟨_, rfl⟩
           have S3 := hid (show Ms w V3 m from by rw [hV]; exact S2.out.below BB)
           have P3 := hid (show IB V3 w2.heap.size 38 ps from by rw [hV]; exact storedP w2 ps)
           rw [z25_eq] at hV
           rw [← hV]
           clear hV BB)
        | (refine wpList_loadM rfl (.tmp 2) rfl _ m rfl S3.out.A K.out ?_)
        | (refine wpList_loadI rfl 38 (.tmp 7) rfl _ 38 ps 25 _ rfl P3.out Tryz.underlying38 rfl size25d UL.out ?_))
      with_reducible refine (KF2.out V3 S3.out.bel).mono ?_
      rintro e w4 ⟨A4, c4, rfl, hO, hB⟩
      have S4 := hid (S3.out.below hB)
      have O4 := hid hO
      have LT := hid S3.out.lt
      clear hO hB
      have S5 := hid (S4.out.setA (mm := mf))
      have O5 := hid (O4.out.setRow (g := w.heap.size) (by have := LT.out; omega) mf.ag)
      obtain ⟨V5, hV5⟩ : ∃ V5, V5 = w4.setRow w.heap.size mf.ag := ⟨_, rfl⟩
      rw [← hV5] at S5 O5
      have HV5 := hid hV5
      clear hV5
      rw [LO.out]
      go_wp2_with (first
        | (refine wpList_storeM rfl (.tmp 2) (.tmp 27) rfl _ m mf rfl rfl S4.out.A K.out OK2.out ?_; rw [← HV5.out]; clear HV5)
        | (refine wpList_loadM rfl (.tmp 2) rfl _ mf rfl S5.out.A OK2.out ?_)
        | (refine wpList_storeM rfl (.tmp 4) (.tmp 29) rfl _ zeroM mf rfl rfl S5.out.R zeroM_ok OK2.out ?_))
      refine bodyPost_ret (v := _) (hR _ _ _ mf rfl (MB.setRow S5.out.R mf) OK2.out) rfl ?_
      rw [FM2.out, FY2.out, HE.out]
      exact ⟨A4, c4, by rw [LO.out]; rfl, (O5.out.setRow (g := w.heap.size + 1) (by have := LT.out; omega) mf.ag).more (base' := w.heap.size) (by have := LT.out; omega), below_setRow S5.out.bel (g := w.heap.size + 1) (by omega) mf.ag⟩
    · have HE := hid (show deE m xs ≠ 0 from by rw [FE.out]; exact he)
      have HE2 := hid FE.out
      have he2 : (unE xs != 0) = true := by simpa using he
      have FM2 := hid (FM.out HE.out)
      have FY2 := hid (FY.out HE.out)
      clear FE FM FY FM0 FY0 UE OKF KFR HE HG
      generalize unE xs = ee at *
      generalize unL xs = ps at *
      go_wp2_with (first
        | (refine wpList_storeI rfl 38 (.tmp 7) (.tmp 17) rfl _ 38 Z25 ps 25 rfl rfl (IB.new w2 38 Z25) size25d rfl UL.out ?_
           have BB := below_stored w2 (.cells (agi Z25) 38) (agi ps)
           obtain ⟨V3, hV⟩ : ∃ V3, V3 = (w2.alloc (.cells (agi Z25) 38)).setRow w2.heap.size (agi ps) := ⟨_, rfl⟩
           have S3 := hid (show Ms w V3 m from by rw [hV]; exact S2.out.below BB)
           rw [z25_eq] at hV
           rw [← hV]
           clear hV BB)
        | (refine wpList_storeM rfl (.tmp 4) (.tmp 21) rfl _ zeroM zeroM rfl (congrArg Value.agg zeroM_ag) S3.out.R zeroM_ok zeroM_ok ?_))
      refine bodyPost_ret (v := _) (hR _ _ _ zeroM rfl (MB.setRow S3.out.R zeroM) zeroM_ok) rfl ?_
      rw [FM2.out, FY2.out, HE2.out]
      exact NewM.bad (below_setRow S3.out.bel (g := w.heap.size + 1) (by omega) zeroM.ag)
end Go.Proofs.YthoiikkjjaldnaaGreatDoor

/- append of one number as a step of a drawing region. -/
namespace Go.Proofs.YthoiikkjjaldnaaGreatDoor
set_option linter.unusedVariables false
set_option linter.unusedSimpArgs false
set_option maxRecDepth 100000
open Go.RowKit

theorem step_pushI {ops : Array Oper} {o : Oper} {a : Act} {w : World} {K : Act → World → Prop} {Q : Exit → Act → World → Prop} {E : Prop} (hgd : o.guard = none) (s x : Operand)
    (ho : o.op = .call { callee := .builtin .append, args := #[s, x], argTypes := #[27, 27] })
    (base : Nat) (A : Option Addr) (c n : Nat) (xs : List Int) (hs : a.eval s = .slice A n c) (hn : xs.length = n) (hown : Own w base A c xs)
    (ad : Addr) (y : Int) (hx : a.eval x = .slice (some ad) 1 1) (hc : w.cell? ad = some (.int .i64 y)) (hlen : n + 1 ≤ 17592186044416) (hbase : base ≤ w.heap.size)
    (h : ∀ A' c' w', Own w' base A' c' (xs ++ [y]) → w.grownBy w' (A.map (·.block)) → K (a.put o.dst (.slice A' (n + 1) c')) w') :
    if Region.wanted o (yielded ops a.tmps) = true then Oper.wp Tryz.prog o a w K Q else E := by
  have hw : Region.wanted o (yielded ops a.tmps) = true := by simp [Region.wanted, hgd]
  rw [if_pos hw]
  subst hn
  obtain ⟨i0, hi, hz0, hz1, hz2⟩ := info_parts infoI
  have hr : Reads w (ad.block + 1) 1 (some ad) 1 (ints [y]) := ⟨by simp [ints], fun _ => ⟨ad, rfl, by omega, fun j u hj => by
    match j, hj with
    | 0, hj => simp [ints] at hj; subst hj; have e : ad.add 0 = ad := by unfold Addr.add; simp
               rw [e]; exact hc⟩⟩
  obtain ⟨v', w', hrun, h2, h3, h4⟩ := run_append_any (P := Tryz.prog) w base 27 o.type 3 i0 (.int .i64 0) 1 8 Tryz.underlying27 hi hz0 hz1 hz2 rfl (by omega) _ _ _ hown (ad.block + 1) (some ad) 1 1 (ints [y]) hr (ints_one [y]) (by unfold maxLen; omega) (by omega) hbase
  obtain ⟨A', c', rfl, hO⟩ := own_form h2 (ints_append xs [y])
  have hl : (xs ++ [y]).length = xs.length + 1 := by simp
  unfold Oper.wp execOp
  simp only [ho, resolve, invoke, builtin, Sem.run_bind, Sem.run_pure, Result.andThen_ok, List.map_toArray, List.map_cons, List.map_nil, hs, hx, hrun]
  rw [hl]
  exact h A' c' w' hO (by cases A <;> exact h3)
end Go.Proofs.YthoiikkjjaldnaaGreatDoor

/- The reference's MixExc. -/
namespace Go.Proofs.YthoiikkjjaldnaaGreatDoor
set_option linter.unusedVariables false
set_option linter.unusedSimpArgs false
set_option maxRecDepth 100000
open Go.RowKit

set_option maxHeartbeats 4000000 in
theorem refMix_any (h x : List Int) (lag g : Int) (A : Option Addr) (c n : Nat) (w : World) (hh : h.length = 80) (hr : Rs w w.heap.size A x) (hn : x.length = n) (hl : n ≤ 17592186044416) (hw : W64 h) (hwx : W64 x) :
    Calls Tryz.prog 133 #[.agg (agi h), .int .i64 lag, .int .i64 g, .slice A n c] w (NewSE w (mxL h x lag g n) (mxR lag g n)) := by
  have A0 := hid (IB.new w 23 h)
  have B0 := hid ((Below.refl w.heap.size w).alloc (Nat.le_refl _) (.cells (agi h) 23))
  have HH := hid hh
  have HR := hid hr
  have HN := hid hn
  by_cases h40 : n = 40
  · subst h40
    by_cases hg : (20 ≤ lag ∧ lag ≤ 79) ∧ 0 ≤ g ∧ g ≤ 32767
    · obtain ⟨⟨l1, l2⟩, g1, g2⟩ := hg
      have hb := pastB_yes l1 l2
      have KP := hid (fun W => refPast_any h lag W hh)
      have hlen := pastL_len (h := h) hb
      have hP64 : W64 (pastL h lag) := fun y hy => by
        unfold pastL at hy
        rw [if_pos hb] at hy
        obtain ⟨i, _, rfl⟩ := List.mem_map.1 hy
        exact hw.at_ _
      obtain ⟨e1, e2⟩ := mx_good (h := h) (x := x) (lag := lag) (g := g) (by unfold mxB; rw [hb]; simp; omega)
      have E1 := hid e1
      rw [e2]
      rw [hb] at KP
      have HPL := hid hlen
      have HP64 := hid hP64
      have HX64 := hid hwx
      have HE := hid (fun i => show mxE h x lag g i = mxV ((pastL h lag).getD i 0) g (x.getD i 0) from rfl)
      generalize pastL h lag = P at *
      clear e1 e2 hb hlen hP64 hwx hw hr hn hh
      go_enter Tryz.func133, Tryz.ntmps133
      go_wp2_with (refine wpList_loadI rfl 23 (.tmp 4) rfl _ 23 h 80 _ rfl A0.out Tryz.underlying23 rfl size80k HH.out ?_)
      refine (KP.out _).mono ?_
      rintro e w1 ⟨A1, c1, rfl, hO, hB⟩
      have L1 := hid (B0.out.trans (hB.mono B0.out.size))
      obtain ⟨gv, rfl, gv1, gv2⟩ := hO.head (by rw [HPL.out]; omega)
      have O1 := hid (hO.more (base' := w.heap.size) (by simp))
      have hgv : w.heap.size ≤ gv := by simp at gv1; omega
      have HGV2 := hid gv2
      have HL1 := hid L1.out.size
      rw [HPL.out]
      clear hO hB gv1 gv2 l1 l2
      go_wp2
      go_loopw [12, 39] (fun ov iv wr => ∃ (k : Nat) (A2 : Option Addr) (c2 : Nat), k ≤ 40 ∧ iv = .int .i64 k ∧ ov = .slice A2 k c2 ∧ Hid (Own wr w1.heap.size A2 c2 ((List.range k).map (mxE h x lag g))) ∧ Hid (Own wr w.heap.size (some ⟨gv, 0, none⟩) c1 P) ∧ Hid (Below w.heap.size w wr) ∧ Hid (w1.heap.size ≤ wr.heap.size)) (fun _ iv _ => 40 - (intOf iv).toNat)
      case atStart => exact ⟨0, none, 0, by omega, rfl, rfl, hid Own.nil, O1, L1, hid (Nat.le_refl _)⟩
      case round =>
        clear O1 L1
        obtain ⟨k, A2, c2, hk, rfl, rfl, HO, HV1, HB, HS⟩ := hrel
        by_cases hlt : k < 40
        · obtain ⟨ad, rfl, hadb, cb0⟩ := HR.out.at_ (k := k) (by rw [HN.out]; exact hlt)
          have cb := (HB.out.cell (p := ad.add k) (by rw [block_of_add]; exact hadb)).trans cb0
          have cp := HV1.out.cell k (by rw [HPL.out]; exact hlt)
          have hk40 : (k : Int) < 40 := by omega
          have HV := HE.out k
          have p64 := HP64.out.at_ k
          have b64 := HX64.out.at_ k
          have YN := hid (show (List.range k).map (mxE h x lag g) ++ [mxE h x lag g k] = (List.range (k + 1)).map (mxE h x lag g) from snoc_range _)
          have YL := hid (show ((List.range k).map (mxE h x lag g)).length = k by simp)
          generalize (List.range k).map (mxE h x lag g) = Y at *
          obtain ⟨p, hp⟩ : ∃ p, p = P.getD k 0 := ⟨_, rfl⟩
          obtain ⟨b, hb⟩ : ∃ b, b = x.getD k 0 := ⟨_, rfl⟩
          have HCP := hid (fun W (o : Own W w.heap.size (some ⟨gv, 0, none⟩) c1 P) => show W.cell? ⟨gv, k, none⟩ = some (.int .i64 p) by rw [hp]; exact o.cell k (by rw [HPL.out]; exact hlt))
          rw [← hp] at cp HV p64
          rw [← hb] at cb cb0 HV b64
          have CB0 := hid cb0
          unfold mxV at HV
          have KA := hid (fun W => S_any p W p64.1 p64.2)
          have KB := hid (fun W => S_any b W b64.1 b64.2)
          have ra := s16_range p
          have rb := s16_range b
          generalize s16 p = sa at KA HV ra
          generalize s16 b = sb at KB HV rb
          have hq := mx_mul ra.1 ra.2 g1 g2
          obtain ⟨q, hqe⟩ : ∃ q, sa * g = q := ⟨_, rfl⟩
          rw [hqe] at hq HV
          have hw1 : IntKind.i64.wrap (sa * g) = q := by rw [hqe, IntKind.wrap_i64]; omega
          have hw2 : IntKind.i64.wrap (q + 8192) = q + 8192 := by rw [IntKind.wrap_i64]; omega
          have KD := hid (fun W => down14 (q + 8192) W (by omega) (by omega))
          obtain ⟨r, hre⟩ : ∃ r, r = (q + 8192) / 16384 := ⟨_, rfl⟩
          rw [← hre] at KD HV
          obtain ⟨t, ht⟩ : ∃ t, t = r + sb := ⟨_, rfl⟩
          have hw3 : IntKind.i64.wrap (r + sb) = t := by rw [ht, IntKind.wrap_i64]; omega
          rw [← ht] at HV
          have KT := hid (fun W => S_any t W (by omega) (by omega))
          obtain ⟨y, hy⟩ : ∃ y, y = s16 t := ⟨_, rfl⟩
          rw [← hy] at KT HV
          rw [HV] at YN
          have hgvW : gv < wr.heap.size := by have := HGV2.out; have := HS.out; omega
          have hadW : ad.block < wr.heap.size := by have := HB.out.size; omega
          have HADB := hid hadb
          clear hp hb ra rb hq hqe hre ht hy HV p64 b64 hadb cb0
          go_wp2
          go_region_held3 (fun w' => w'.cell? ⟨gv, k, none⟩ = some (.int .i64 p) ∧ w'.cell? (ad.add k) = some (.int .i64 b)) (go_keep) (first
            | (go_at_call 109; (with_reducible refine (KA.out wr.drew).mono ?_); rintro e' wA ⟨rfl, hBA⟩; have LA : Below wr.heap.size wr wA := ((Below.refl wr.heap.size wr).drew).trans (hBA.mono (Nat.le_refl _)); have a0 : World.cell? wA ⟨gv, k, none⟩ = some (.int .i64 p) := (LA.cell hgvW).trans cp; have a1 : World.cell? wA (ad.add k) = some (.int .i64 b) := (LA.cell (by rw [block_of_add]; omega)).trans cb; have LA := hid LA; clear hBA)
            | (go_at_call 110; (with_reducible refine (KD.out wA).mono ?_); rintro e' wB ⟨rfl, hBB⟩; have LB : Below wr.heap.size wr wB := LA.out.trans (hBB.mono LA.out.size); have b0 : World.cell? wB ⟨gv, k, none⟩ = some (.int .i64 p) := (LB.cell hgvW).trans cp; have b1 : World.cell? wB (ad.add k) = some (.int .i64 b) := (LB.cell (by rw [block_of_add]; omega)).trans cb; have LB := hid LB; clear hBB)
            | (go_at_call 109; (with_reducible refine (KB.out wB).mono ?_); rintro e' wC ⟨rfl, hBC⟩; have LC : Below wr.heap.size wr wC := LB.out.trans (hBC.mono LB.out.size); have e0 : World.cell? wC ⟨gv, k, none⟩ = some (.int .i64 p) := (LC.cell hgvW).trans cp; have e1 : World.cell? wC (ad.add k) = some (.int .i64 b) := (LC.cell (by rw [block_of_add]; omega)).trans cb; have LC := hid LC; clear hBC)
            | (go_at_call 109; (with_reducible refine (KT.out wC).mono ?_); rintro e' wD ⟨rfl, hBD⟩; have LD : Below wr.heap.size wr wD := LC.out.trans (hBD.mono LC.out.size); have d0 : World.cell? wD ⟨gv, k, none⟩ = some (.int .i64 p) := (LD.cell hgvW).trans cp; have d1 : World.cell? wD (ad.add k) = some (.int .i64 b) := (LD.cell (by rw [block_of_add]; omega)).trans cb; have LD := hid LD; clear hBD)
            | (refine step_pushI rfl (.tmp 42) (.tmp 59) rfl w1.heap.size A2 c2 k Y rfl YL.out ((HO.out.below LD.out).alloc _) ⟨wD.heap.size, 0, none⟩ y rfl (cell_new wD _ _) (by omega) (by have := HS.out; have := LD.out.size; simp; omega) ?_; intro A3 c3 w5 hO hG; have V5 := (((HV1.out.below LD.out).alloc (.cells #[.int .i64 y] 3)).kept hG (fun a ha => by injection ha with ha; subst ha; cases A2 with | none => simp | some a2 => have := HO.out.lt a2 rfl; have := HGV2.out; simp; omega)); have B5 : Below w.heap.size w w5 := (((HB.out.trans (LD.out.mono HB.out.size)).alloc (by have := HB.out.size; have := LD.out.size; omega) (.cells #[.int .i64 y] 3)).grown hG (by have := HB.out.size; have := LD.out.size; simp; omega) (fun i hi => by cases A2 with | none => simp at hi | some a2 => have := HO.out.lt a2 rfl; have := HL1.out; simp at hi; omega)); have f0 := HCP.out w5 V5; have f1 : World.cell? w5 (ad.add k) = some (.int .i64 b) := (B5.cell (p := ad.add k) (by rw [block_of_add]; exact HADB.out)).trans CB0.out; have V5 := hid V5; have B5 := hid B5; have O5 := hid hO; have G5 := hid hG.size; clear hO hG))
          rename_i hHeldZ
          clear hHeldZ
          clear a0 a1 b0 b1 e0 e1 d0 d1 f0 f1 cp cb hw1 hw2 hw3
          simp only [Exit.then, Exit.inBlock]
          have S5 := hid (show w1.heap.size ≤ w5.heap.size by have h1 := HS.out; have h2 := HB.out.size; have h3 := LD.out.size; have h4 := G5.out; simp at h4; omega)
          go_wp2
          go_roundw
          case rel => exact ⟨k + 1, A3, c3, by omega, by go_num, rfl, hid (by have := O5.out; rwa [YN.out] at this), V5, B5, S5⟩
          case measure => simp [intOf] <;> omega
        · obtain rfl : k = 40 := by omega
          go_wp2
          go_ret2
          rw [E1.out]
          exact ⟨A2, c2, by simp, HO.out.more (by have := HL1.out; omega), HB.out⟩
    · obtain ⟨e1, e2⟩ := mx_bad (h := h) (x := x) (lag := lag) (g := g) (by unfold mxB pastB; simp; omega)
      rw [e1, e2]
      have FIN := hid (NewSE.none_ (er := 2) B0.out)
      clear e1 e2 hw hwx hr hn hh
      by_cases c1 : lag < 20
      · clear hg
        go_enter Tryz.func133, Tryz.ntmps133
        go_wp2
        go_ret2
        exact FIN.out
      by_cases c2 : 79 < lag
      · clear hg
        go_enter Tryz.func133, Tryz.ntmps133
        go_wp2
        go_ret2
        exact FIN.out
      by_cases c3 : g < 0
      · clear hg
        go_enter Tryz.func133, Tryz.ntmps133
        go_wp2
        go_ret2
        exact FIN.out
      · have c4 : 32767 < g := by omega
        clear hg
        go_enter Tryz.func133, Tryz.ntmps133
        go_wp2
        go_ret2
        exact FIN.out
  · obtain ⟨e1, e2⟩ := mx_size (h := h) (x := x) (lag := lag) (g := g) h40
    rw [e1, e2]
    have d1 : ((n : Int) == 40) = false := by simp; omega
    have d2 : ((n : Int) != 40) = true := by simp; omega
    have FIN := hid (NewSE.none_ (er := 1) B0.out)
    clear h40 e1 e2
    go_enter Tryz.func133, Tryz.ntmps133
    go_wp2
    go_ret2
    exact FIN.out
end Go.Proofs.YthoiikkjjaldnaaGreatDoor

/- The walks of the reference's power of two, of its gain level, and of the laws DualPows and GainLevels. -/
namespace Go.Proofs.YthoiikkjjaldnaaGreatDoor
set_option linter.unusedVariables false
set_option linter.unusedSimpArgs false
set_option maxRecDepth 100000
open Go.RowKit

theorem sm_small {z : Int} (h1 : -9223372036854775808 ≤ z) (h2 : z ≤ 9223372036854775807) : Sm z.natAbs := sm_of_lt (by omega)
theorem pow2_rem {k : Nat} (h : k < 15) : (0 : Int) < 2 ^ (14 - k) ∧ (2 : Int) ^ (14 - k) ≤ 16384 := by
  have : ∀ j, j < 15 → (0 : Int) < 2 ^ (14 - j) ∧ (2 : Int) ^ (14 - j) ≤ 16384 := by decide
  exact this k h

def PowAns (w : World) (n f : Int) (e : Ending) (w' : World) : Prop := e = .returned (.tuple #[.int .i64 (powV n f), .int .i64 (errOf (powB n f))]) ∧ Below w.heap.size w w'

set_option maxHeartbeats 4000000 in
theorem refPow_in (n f : Int) (w : World) (T : TabS w 5 rootsL) (n1 : 0 ≤ n) (n2 : n ≤ 30) (f1 : 0 ≤ f) (f2 : f ≤ 32767) :
    Calls Tryz.prog 183 #[.int .i64 n, .int .i64 f] w fun e w' => e = .returned (.tuple #[.int .i64 (powV n f), .int .i64 0]) ∧ Below w.heap.size w w' := by
  have d1 : ¬ n < 0 := by omega
  have d2 : ¬ 30 < n := by omega
  have d3 : ¬ f < 0 := by omega
  have d4 : ¬ 32767 < f := by omega
  have TT := hid T
  clear T
  go_enter Tryz.func183, Tryz.ntmps183
  go_wp2_with fail
  refine (NewInt_any _ 1073741824 (by omega) (by omega)).mono ?_
  rintro e w1 ⟨bx, rfl, hb1, hI1, hB1⟩
  have I1 := hid hI1
  have B1 := hid hB1
  clear hI1 hB1
  go_wp2
  go_loopw [7] (fun iv wr => ∃ (k : Nat) (x : Int), k ≤ 15 ∧ iv = .int .i64 k ∧ Hid (x = powX f k) ∧ Hid (IntAt wr bx x) ∧ Hid (Below w.heap.size w wr)) (fun iv _ => 15 - (intOf iv).toNat)
  case atStart => exact ⟨0, 1073741824, by omega, rfl, hid rfl, I1, B1⟩
  case round =>
    clear I1 B1
    obtain ⟨k, x, hk, rfl, HX, HI, HB⟩ := hrel
    by_cases hlt : k < 15
    · have x1 : 1073741824 ≤ x := by rw [HX.out]; exact powX_lo f k
      have x2 : x ≤ 2147483648 := by rw [HX.out]; exact powX_hi f (by omega)
      have r1 := powR_nn k
      have r2 := powR_le k
      have HR := hid (show powX f (k + 1) = if powBit f k then x + x * powR k / 1073741824 else x by rw [powX, ← HX.out])
      obtain ⟨g1, g2⟩ := pow2_rem hlt
      have g3 : ¬ (2 : Int) ^ (14 - k) = 0 := by omega
      have g4 : 0 ≤ f / 2 ^ (14 - k) := Int.ediv_nonneg f1 (by omega)
      by_cases hb : f / 2 ^ (14 - k) % 2 = 1
      · have e1 : (f / 2 ^ (14 - k) % 2 == 1) = true := by rw [hb]; rfl
        have HR2 := hid (show powX f (k + 1) = x + x * powR k / 1073741824 by rw [HR.out, if_pos (by unfold powBit; simpa using hb)])
        clear hb HR
        obtain ⟨A, c, h0, hlen, hc⟩ := (TT.out.below' (HB.out.alloc HB.out.size (.cells #[.bool false, .slice none 0 0] 80)) (Nat.le_refl _)).form
        obtain ⟨ad, rfl, hc⟩ := hc k hlt
        have h0 : (wr.alloc (.cells #[.bool false, .slice none 0 0] 80)).cell? ⟨5, 0, none⟩ = some (.slice (some ad) 15 c) := h0
        unfold powR at r1 r2 HR2
        generalize rootsL.getD k 0 = r at *
        obtain ⟨q1, q2, q3, q4⟩ := pow_step x1 x2 r1 r2
        have HQ := hid (And.intro q1 (And.intro q2 (And.intro q3 q4)))
        clear hlen q1 q2 q3 q4
        go_wp2_with fail
        refine (whole_any _ r (by omega) (by omega)).mono ?_
        rintro e w2 ⟨b2, rfl, hb2, hI2, hB2⟩
        have P2 := hid (IntBlk.below (IntBlk.new wr (.bool false) (.slice none 0 0)) hB2 (Nat.le_refl _))
        have X2 := hid ((HI.out.below ((Below.refl _ _).alloc (Nat.le_refl _) _) (Nat.le_refl _)).below hB2 (Nat.le_refl _))
        have I2 := hid hI2
        have B2 := hid ((HB.out.alloc HB.out.size _).trans (hB2.mono (by have := HB.out.size; simp; omega)))
        have hxlt := HI.out.lt
        have hws := HB.out.size
        clear hI2 hB2 hc h0
        go_wp2_with fail
        refine (Mul_any w2 wr.heap.size bx b2 x r P2.out X2.out I2.out (sm_small (by omega) (by omega)) (sm_small (by omega) (by omega))).mono ?_
        rintro e w3 ⟨rfl, hI3, hG3⟩
        have P3 := hid hI3
        have X3 := hid (X2.out.kept P2.out hG3 (by omega))
        have B3 := hid (below_of_grownBy B2.out hG3 (by omega))
        clear hI3 hG3
        go_wp2_with fail
        refine (Rsh_any w3 wr.heap.size wr.heap.size (x * r) 30 P3.out.blk P3.out (sm_small (by have := HQ.out; omega) (by have := HQ.out; omega)) (by omega)).mono ?_
        rintro e w4 ⟨rfl, hI4, hG4⟩
        rw [show (2 : Int) ^ 30 = 1073741824 from by decide] at hI4
        have P4 := hid hI4
        have X4 := hid (X3.out.kept P3.out.blk hG4 (by omega))
        have B4 := hid (below_of_grownBy B3.out hG4 (by omega))
        clear hI4 hG4
        go_wp2_with fail
        refine (Add_any w4 bx bx wr.heap.size x (x * r / 1073741824) X4.out.blk X4.out P4.out (sm_small (by omega) (by omega)) (sm_small (by have := HQ.out; omega) (by have := HQ.out; omega))).mono ?_
        rintro e w5 ⟨rfl, hI5, hG5⟩
        have X5 := hid hI5
        have B5 := hid (below_of_grownBy B4.out hG5 hb1)
        clear hI5 hG5
        go_wp2
        go_roundw
        case rel => exact ⟨k + 1, _, by omega, by go_num, hid HR2.out.symm, X5, B5⟩
        case measure => simp [intOf] <;> omega
      · have e1 : (f / 2 ^ (14 - k) % 2 == 1) = false := by simpa using hb
        have HR2 := hid (show powX f (k + 1) = x by rw [HR.out, if_neg (by unfold powBit; simpa using hb)])
        clear hb HR
        go_wp2
        go_roundw
        case rel => exact ⟨k + 1, _, by omega, by go_num, hid HR2.out.symm, HI, HB⟩
        case measure => simp [intOf] <;> omega
    · obtain rfl : k = 15 := by omega
      obtain ⟨m, rfl⟩ := Int.eq_ofNat_of_zero_le n1
      have x1 : 1073741824 ≤ x := by rw [HX.out]; exact powX_lo f 15
      have x2 : x ≤ 2147483648 := by rw [HX.out]; exact powX_hi f (by omega)
      have HV := hid (show powV (m : Nat) f = (if 2147483647 ≤ x / 2 ^ (30 - m) then 2147483647 else x / 2 ^ (30 - m)) by
        unfold powV
        rw [if_pos (by unfold powB; simp; omega), ← HX.out, show ((30 : Int) - (m : Nat)).toNat = 30 - m by omega])
      have hp0 : (0 : Int) < 2 ^ (30 - m) := Int.pow_pos (by decide)
      have y1 : 0 ≤ x / 2 ^ (30 - m) := Int.ediv_nonneg (by omega) (by omega)
      have y2 : x / 2 ^ (30 - m) ≤ 2147483648 := Int.le_trans (Int.ediv_le_self _ (by omega)) x2
      clear HX hlt hp0
      go_wp2_with fail
      rw [show (30 : Int) - (m : Int) = ((30 - m : Nat) : Int) from by omega]
      refine (Rsh_any wr bx bx x (30 - m) HI.out.blk HI.out (sm_small (by omega) (by omega)) (by omega)).mono ?_
      rintro e w2 ⟨rfl, hI2, hG2⟩
      have I2 := hid hI2
      have B2 := hid (below_of_grownBy HB.out hG2 hb1)
      clear hI2 hG2
      generalize x / 2 ^ (30 - m) = y at *
      have K := hid (Int64_any w2 bx y I2.out (by omega) (by omega))
      by_cases hc : 2147483647 ≤ y
      · have HV2 := hid (show powV (m : Nat) f = 2147483647 by rw [HV.out, if_pos hc])
        clear HV
        go_wp2_with (go_at_call 75; (with_reducible refine K.out.mono ?_); rintro e w' ⟨rfl, rfl⟩)
        all_goals
          go_ret2
          exact ⟨by rw [HV2.out]; first | rfl | exact ret2i (a := y) (by omega), B2.out⟩
      · have HV2 := hid (show powV (m : Nat) f = y by rw [HV.out, if_neg hc])
        have g1 : y < 2147483647 := by omega
        clear HV hc
        go_wp2_with (go_at_call 75; (with_reducible refine K.out.mono ?_); rintro e w' ⟨rfl, rfl⟩)
        all_goals
          go_ret2
          exact ⟨by rw [HV2.out]; first | rfl | exact ret2i (a := y) (by omega), B2.out⟩

set_option maxHeartbeats 1000000 in
theorem refPow_any (n f : Int) (w : World) (T : TabS w 5 rootsL) :
    Calls Tryz.prog 183 #[.int .i64 n, .int .i64 f] w (PowAns w n f) := by
  by_cases h : (0 ≤ n ∧ n ≤ 30) ∧ 0 ≤ f ∧ f ≤ 32767
  · have hb : powB n f = true := by unfold powB; simpa using h
    unfold PowAns
    rw [hb]
    exact refPow_in n f w T h.1.1 h.1.2 h.2.1 h.2.2
  · have hb : powB n f = false := by unfold powB; simpa using h
    have hv : powV n f = 0 := by unfold powV; rw [hb]; rfl
    have FIN := hid (show PowAns w n f (.returned (.tuple #[.int .i64 0, .int .i64 2])) w from ⟨by rw [hb, hv]; rfl, Below.refl _ _⟩)
    clear hb hv T
    by_cases h1 : n < 0
    · clear h
      go_enter Tryz.func183, Tryz.ntmps183
      go_wp2
      go_ret2
      exact FIN.out
    by_cases h2 : 30 < n
    · clear h
      go_enter Tryz.func183, Tryz.ntmps183
      go_wp2
      go_ret2
      exact FIN.out
    by_cases h3 : f < 0
    · clear h
      go_enter Tryz.func183, Tryz.ntmps183
      go_wp2
      go_ret2
      exact FIN.out
    have h4 : 32767 < f := by omega
    clear h
    go_enter Tryz.func183, Tryz.ntmps183
    go_wp2
    go_ret2
    exact FIN.out

def GlAns (w : World) (n : Int) (e : Ending) (w' : World) : Prop := e = .returned (.tuple #[.int .i64 (glV n), .int .i64 (errOf (glB n))]) ∧ Below w.heap.size w w'
set_option maxHeartbeats 1000000 in
theorem refGainLevel_any (n : Int) (w : World) (T : TabS w 5 rootsL) :
    Calls Tryz.prog 131 #[.int .i64 n] w (GlAns w n) := by
  by_cases h : n < 0 ∨ 31 < n
  · have FIN := hid (show GlAns w n (.returned (.tuple #[.int .i64 0, .int .i64 2])) w from ⟨by rw [show glV n = 0 by unfold glV; rw [glB_no h]; rfl, glB_no h]; rfl, Below.refl _ _⟩)
    clear T
    rcases h with h | h
    · go_enter Tryz.func131, Tryz.ntmps131
      go_wp2
      go_ret2
      exact FIN.out
    · have h2 : ¬ n < 0 := by omega
      go_enter Tryz.func131, Tryz.ntmps131
      go_wp2
      go_ret2
      exact FIN.out
  · have l1 : 0 ≤ n := by omega
    have l2 : n ≤ 31 := by omega
    have l3 : ¬ n < 0 := by omega
    have l4 : ¬ 31 < n := by omega
    have K := refPow_any ((24 + 3 * n) / 8) ((24 + 3 * n) % 8 * 4096) w T
    have hv : powV ((24 + 3 * n) / 8) ((24 + 3 * n) % 8 * 4096) = glV n := by unfold glV; rw [glB_yes l1 l2]; rfl
    unfold PowAns at K
    rw [powB_gl l1 l2, hv] at K
    have HF := hid (fun (w' : World) (h : Below w.heap.size w w') => show GlAns w n (.returned (.tuple #[.int .i64 (glV n), .int .i64 0])) w' from ⟨by rw [glB_yes l1 l2]; rfl, h⟩)
    have K' := hid K
    clear hv T h K
    go_enter Tryz.func131, Tryz.ntmps131
    go_wp2_with (go_at_call 183; (with_reducible refine K'.out.mono ?_); rintro e w' ⟨rfl, hB⟩; have B1 := hid hB; clear hB)
    go_ret2
    exact HF.out _ B1.out

end Go.Proofs.YthoiikkjjaldnaaGreatDoor

/- The walk of the reference's Direct. -/
namespace Go.Proofs.YthoiikkjjaldnaaGreatDoor
set_option linter.unusedVariables false
set_option linter.unusedSimpArgs false
set_option maxRecDepth 100000
open Go.RowKit

theorem own_lit1 (w : World) (v : Int) (base : Nat) (hb : base ≤ w.heap.size) : Own (w.alloc (.cells #[.int .i64 v] 3)) base (some ⟨w.heap.size, 0, none⟩) 1 [v] :=
  World.ownsRow_lit (base := base) (e := 3) (size := 1) w #[.int .i64 v] 1 hb (by unfold maxLen; omega) rfl

set_option maxHeartbeats 8000000 in
theorem refDirect_any (a : List Int) (w : World) (ha : a.length = 8) : Calls Tryz.prog 120 #[.agg (agi a)] w (Dirs w a) := by
  have I0 := hid (Bx2.start 22 w a)
  have hR := results_row2 (fn := Tryz.f120) (p := 2) (q := 3) (ty := 90) rfl
  have HA := hid ha
  have HIX := hid (fun (k : Nat) (hk : k < 8) (w : World) => run_index_agi Tryz.underlying22 a ha k hk w)
  have O1 := IB.new ((w.alloc (.cells (agi a) 22)).alloc (.cells (agi Z9) 90)) 90 Z9
  have I1 := hid ((I0.out.below ((Below.refl _ _).alloc (Nat.le_refl _) (.cells (agi Z9) 90))))
  simp only [World.size_alloc] at O1
  have O1 := hid O1
  have KS := hid (fun w1 => steady_any a w1 ha)
  rw [z9_eq] at O1 I1
  clear ha I0
  by_cases sd : steadyB a = true
  · have SD := hid sd
    have SA := hid (fun i => steadyB_at sd i)
    rw [sd] at KS
    clear sd
    go_enter Tryz.func120, Tryz.ntmps120
    go_wp2_with (refine wpList_loadI rfl 22 (.tmp 1) rfl _ 22 a 8 _ rfl I1.out.A Tryz.underlying22 rfl size8 HA.out ?_)
    refine (KS.out _).mono ?_
    rintro e w1 ⟨rfl, hB⟩
    have I2 := hid (I1.out.below hB)
    have O2 := hid (Blk.below' O1.out hB)
    clear hB O1 I1
    have G2 := hid (own_lit1 w1 16777216 w.heap.size (by have := I2.out.lt; omega))
    have I3 := hid (I2.out.below ((Below.refl _ _).alloc (Nat.le_refl _) (.cells #[.int .i64 16777216] 3)))
    have O3 := hid (Blk.alloc O2.out (.cells #[.int .i64 16777216] 3))
    go_wp2_with (refine wpList_loadI rfl 22 (.tmp 1) rfl _ 22 a 8 _ rfl I3.out.A Tryz.underlying22 rfl size8 HA.out ?_)
    go_loopw [5, 16] (fun av iv wr => ∃ (m n : Nat) (A : Option Addr) (c : Nat), m ≤ 8 ∧ iv = .int .i64 m ∧ av = .slice A n c ∧ Hid (n = m + 1) ∧ Hid (Own wr w.heap.size A c (dirN a m)) ∧ Hid (Bx2 22 w wr a Z9) ∧ Hid (IB wr (w.heap.size + 1 + 1) 90 Z9)) (fun _ iv _ => 8 - (intOf iv).toNat)
    case atStart => exact ⟨0, 1, _, _, by omega, rfl, rfl, hid rfl, G2, I3, O3⟩
    case round =>
      clear G2 I3 O3 I2 O2
      obtain ⟨m, n, A, c, hm, rfl, rfl, HN, HG, HI, HO⟩ := hrel
      by_cases hlt : m < 8
      · have hix := HIX.out m hlt
        obtain ⟨q, hq⟩ : ∃ q, q = a.getD m 0 := ⟨_, rfl⟩
        rw [← hq] at hix
        have sq := SA.out m
        rw [← hq] at sq
        obtain ⟨q1, q2⟩ := sq
        have KG := hid (grown_any A c (dirN a m) q n wr HG.out.reads (by rw [dirN_len, HN.out]) (by have := HN.out; omega) (by have := HN.out; omega) ⟨by omega, by omega⟩ (fun i => dirN_bd SA.out hm i))
        rw [show growL (dirN a m) q n = dirN a (m + 1) from by rw [hq, HN.out]; rfl] at KG
        clear hq
        go_wp2_with fail
        refine KG.out.mono ?_
        rintro e w2 ⟨A2, c2, rfl, hO, hB⟩
        have G4 := hid (hO.more (base' := w.heap.size) HI.out.bel.size)
        have I4 := hid (HI.out.below hB)
        have O4 := hid (Blk.below' HO.out hB)
        have el : (dirN a (m + 1)).length = m + 1 + 1 := dirN_len a (m + 1)
        rw [el]
        clear hO hB el
        go_wp2
        go_roundw
        case rel => exact ⟨m + 1, m + 2, A2, c2, by omega, by go_num, rfl, hid rfl, G4, I4, O4⟩
        case measure => simp [intOf] <;> omega
      · obtain rfl : m = 8 := by omega
        obtain rfl : n = 9 := HN.out
        obtain ⟨g, rfl, hg1, hg2⟩ := HG.out.head (by rw [dirN_len]; omega)
        have BD := hid (fun j => dirN_bd SA.out (show 8 ≤ 8 by omega) j)
        have hne : g ≠ w.heap.size + 1 + 1 := by
          obtain ⟨g', cap, cur, hA, _, _, hh, _⟩ := HG.out.form (by rw [dirN_len]; omega)
          injection hA with hA
          injection hA with hA
          subst hA
          exact Blk.ne_ (t := 3) hh HO.out (by decide)
        clear hlt
        go_wp2
        go_loopw [25] (fun iv wr => ∃ (k : Nat) (zs : List Int), k ≤ 9 ∧ iv = .int .i64 k ∧ Hid (zs.length = 9 ∧ ∀ j, j < k → zs.getD j 0 = ((dirN a 8).getD j 0 + 2048) / 4096) ∧ Hid (Own wr w.heap.size (some ⟨g, 0, none⟩) c (dirN a 8)) ∧ Hid (Bx2 22 w wr a Z9) ∧ Hid (IB wr (w.heap.size + 1 + 1) 90 zs)) (fun iv _ => 9 - (intOf iv).toNat)
        case atStart => exact ⟨0, Z9, by omega, rfl, hid ⟨rfl, fun j h => by omega⟩, HG, HI, HO⟩
        case round =>
          clear HI HO HG
          obtain ⟨k, zs, hk, rfl, HY, HG, HI, HO⟩ := hrel
          by_cases hlt : k < 9
          · have c1 := HG.out.cell k (by rw [dirN_len]; omega)
            obtain ⟨b1, b2⟩ := BD.out k
            obtain ⟨x, hx⟩ : ∃ x, x = (dirN a 8).getD k 0 := ⟨_, rfl⟩
            rw [← hx] at c1 b1 b2
            have HX := hid hx
            clear hx
            have NEXT := hid (show Hid ((zs.set k ((x + 2048) / 4096)).length = 9 ∧ ∀ j, j < k + 1 → (zs.set k ((x + 2048) / 4096)).getD j 0 = ((dirN a 8).getD j 0 + 2048) / 4096) from by
              obtain ⟨q1, q3⟩ := HY.out
              refine ⟨by simpa using q1, fun j hj => ?_⟩
              by_cases he : k = j
              · subst he
                rw [get_set_same _ _ _ (by omega), HX.out]
              · rw [get_set_other _ _ he]
                exact q3 j (by omega))
            go_wp2_with fail
            refine (down12 (x + 2048) _ (by omega) (by omega)).mono ?_
            rintro e w3 ⟨rfl, hB⟩
            have G3 := hid (HG.out.below hB)
            have I3 := hid (HI.out.below hB)
            have O3 := hid (Blk.below' HO.out hB)
            clear hB c1
            have c3 := IB.cell O3.out k (by rw [HY.out.1]; exact hlt)
            have f3 := Blk.frozen O3.out k
            have I4 := hid (I3.out.setCell (g := w.heap.size + 1 + 1) (by omega) k (.int .i64 ((x + 2048) / 4096)))
            have O4 := hid (IB.set_ O3.out k ((x + 2048) / 4096))
            have G4 := hid (G3.out.kept (row := some (w.heap.size + 1 + 1)) (w' := w3.setCell ⟨w.heap.size + 1 + 1, k, none⟩ (.int .i64 ((x + 2048) / 4096))) ⟨rfl, rfl, rfl, by simp [World.setCell], fun i _ hn => Below.heap_setCell _ _ _ i (by simpa using hn)⟩ (fun ad h => by injection h with h; subst h; simpa using hne))
            go_wp2
            go_roundw
            case rel => exact ⟨k + 1, _, by omega, by go_num, NEXT.out, G4, I4, O4⟩
            case measure => simp [intOf] <;> omega
          · obtain rfl : k = 9 := by omega
            have FIN := hid (dir_good SD.out HY.out.1 HY.out.2 (below_setRow HI.out.bel (g := w.heap.size + 1) (by omega) (agi zs)))
            have hRow := hid (HI.out.R.setRow zs)
            clear hlt
            go_wp2_with (first
              | (refine wpList_loadI rfl 90 (.tmp 4) rfl _ 90 zs 9 _ rfl HO.out Tryz.underlying90 rfl size9 HY.out.1 ?_)
              | (refine wpList_storeI rfl 90 (.tmp 2) (.tmp 36) rfl _ 90 Z9 zs 9 rfl rfl HI.out.R size9 rfl HY.out.1 ?_))
            refine bodyPost_ret (v := _) (hR _ _ _ 90 zs _ 9 rfl hRow.out Tryz.underlying90 rfl size9 HY.out.1) rfl ?_
            exact FIN.out
  · have sd' : steadyB a = false := by simpa using sd
    have FIN := hid (fun w1 => dir_bad (w := w) (w' := w1) (a := a) sd')
    rw [sd'] at KS
    clear sd sd'
    go_enter Tryz.func120, Tryz.ntmps120
    go_wp2_with (refine wpList_loadI rfl 22 (.tmp 1) rfl _ 22 a 8 _ rfl I1.out.A Tryz.underlying22 rfl size8 HA.out ?_)
    refine (KS.out _).mono ?_
    rintro e w1 ⟨rfl, hB⟩
    have I2 := hid (I1.out.below hB)
    have O2 := hid (Blk.below' O1.out hB)
    have hRow := hid (I2.out.R.setRow Z9)
    have F2 := hid (FIN.out _ (below_setRow I2.out.bel (g := w.heap.size + 1) (by omega) (agi Z9)))
    clear hB O1 I1
    go_wp2_with (first
      | (refine wpList_loadI rfl 90 (.tmp 4) rfl _ 90 Z9 9 _ rfl O2.out Tryz.underlying90 rfl size9 rfl ?_)
      | (refine wpList_storeI rfl 90 (.tmp 2) (.tmp 13) rfl _ 90 Z9 Z9 9 rfl rfl I2.out.R size9 rfl rfl ?_))
    refine bodyPost_ret (v := _) (hR _ _ _ 90 Z9 _ 9 rfl hRow.out Tryz.underlying90 rfl size9 rfl) rfl ?_
    exact F2.out
end Go.Proofs.YthoiikkjjaldnaaGreatDoor

/- The walk of the reference's newest. -/
namespace Go.Proofs.YthoiikkjjaldnaaGreatDoor
set_option linter.unusedVariables false
set_option linter.unusedSimpArgs false
set_option maxRecDepth 100000
open Go.RowKit

/-- The two boxes and the row that is filled: the past, the answer's, the row. -/
structure Nx (w wr : World) (p ys : List Int) : Prop where
  A : IB wr w.heap.size 22 p
  R : IB wr (w.heap.size + 1) 22 Z8
  O : IB wr (w.heap.size + 2) 22 ys
  bel : Below w.heap.size w wr
theorem Nx.start (w : World) (p : List Int) : Nx w (((w.alloc (.cells (agi p) 22)).alloc (.cells (agi Z8) 22)).alloc (.cells (agi Z8) 22)) p Z8 := by
  have h1 := IB.new w 22 p
  have h2 := IB.new (w.alloc (.cells (agi p) 22)) 22 Z8
  have h3 := IB.new ((w.alloc (.cells (agi p) 22)).alloc (.cells (agi Z8) 22)) 22 Z8
  simp only [World.size_alloc] at h2 h3
  exact ⟨Blk.alloc (Blk.alloc h1 _) _, Blk.alloc h2 _, h3, ((((Below.refl _ _).alloc (Nat.le_refl _) _).alloc (by simp) _).alloc (by simp; omega) _)⟩
theorem Nx.set_ {w wr : World} {p ys : List Int} (h : Nx w wr p ys) (k : Nat) (x : Int) : Nx w (wr.setCell ⟨w.heap.size + 2, k, none⟩ (.int .i64 x)) p (ys.set k x) :=
  ⟨Blk.far h.A (by show w.heap.size ≠ w.heap.size + 2; omega) _, Blk.far h.R (by show w.heap.size + 1 ≠ w.heap.size + 2; omega) _, IB.set_ h.O k x, h.bel.setCell (p := ⟨w.heap.size + 2, k, none⟩) (by show w.heap.size ≤ w.heap.size + 2; omega) _⟩
theorem Nx.drew {w wr : World} {p ys : List Int} (h : Nx w wr p ys) : Nx w wr.drew p ys := ⟨h.A, h.R, h.O, h.bel.drew⟩

set_option maxHeartbeats 4000000 in
theorem newest_any (p l : List Int) (A : Option Addr) (c n B : Nat) (w : World) (hp : p.length = 8) (hr : Rs w w.heap.size A l) (hn : l.length = n) (hl : n ≤ 17592186044416) :
    Calls Tryz.prog 137 #[.agg (agi p), .slice A n c] w fun e w' => e = .returned (.agg (agi (newL p l))) ∧ Below w.heap.size w w' := by
  have hR := results_row1 (fn := Tryz.f137) (p := 4) (ty := 22) rfl
  have S0 := Nx.start w p
  rw [z8_eq] at S0
  have S0 := hid S0
  have HP := hid hp
  have HN := hid hn
  have HR := hid hr
  have FL := hid (newL_range (l := l) hp)
  clear hp hn hr
  go_enter Tryz.func137, Tryz.ntmps137
  go_wp2
  go_loopw [7] (fun iv wr => ∃ (k : Nat) (ys : List Int), k ≤ 8 ∧ iv = .int .i64 k ∧ Hid (ys.length = 8 ∧ ∀ j, j < k → ys.getD j 0 = newAt p l j) ∧ Hid (Nx w wr p ys)) (fun iv _ => 8 - (intOf iv).toNat)
  case atStart => exact ⟨0, Z8, by omega, rfl, hid ⟨rfl, fun j h => by omega⟩, S0⟩
  case round =>
    clear S0
    obtain ⟨k, ys, hk, rfl, HY, HS⟩ := hrel
    have f0 := fun i => Blk.frozen HS.out.O i
    by_cases hlt : k < 8
    · have NEXT := fun x (hx : x = newAt p l k) => hid (show (ys.set k x).length = 8 ∧ ∀ j, j < k + 1 → (ys.set k x).getD j 0 = newAt p l j from by
        obtain ⟨y1, y2⟩ := HY.out
        refine ⟨by simpa using y1, fun j hj => ?_⟩
        by_cases he : k = j
        · subst he
          rw [get_set_same _ _ _ (by omega), hx]
        · rw [get_set_other _ _ he]
          exact y2 j (by omega))
      have cy := IB.cell HS.out.O k (by rw [HY.out.1]; omega)
      have fy := f0 k
      clear f0
      by_cases hin : k < n
      · obtain ⟨d, hd⟩ : ∃ d : Nat, n = k + 1 + d := ⟨n - (k + 1), by omega⟩
        obtain ⟨ad, rfl, _, c1⟩ := (HR.out.below HS.out.bel).at_ (k := d) (by rw [HN.out]; omega)
        have HX := NEXT (l.getD d 0) (by unfold newAt; rw [if_pos (by rw [HN.out]; exact hin), HN.out]; congr 1; omega)
        have SX := hid (HS.out.set_ k (l.getD d 0))
        have SD := hid (SX.out.drew)
        have hw1 : IntKind.i64.wrap ((n : Int) - 1) = (n : Int) - 1 := by rw [IntKind.wrap_i64]; omega
        have hw2 : IntKind.i64.wrap ((n : Int) - 1 - (k : Int)) = (d : Nat) := by rw [IntKind.wrap_i64]; omega
        generalize l.getD d 0 = x at *
        have hdi : (d : Int) < n := by omega
        have HD := hid hd
        clear hd NEXT
        go_wp2
        go_roundw
        case rel => exact ⟨k + 1, _, by omega, by go_num, HX, SX⟩
        case measure => simp [intOf] <;> omega
      · obtain ⟨d, hd⟩ : ∃ d : Nat, k = n + d := ⟨k - n, by omega⟩
        have c1 := IB.cell HS.out.A d (by rw [HP.out]; omega)
        have HX := NEXT (p.getD d 0) (by unfold newAt; rw [if_neg (by rw [HN.out]; exact hin), HN.out]; congr 1; omega)
        have SX := hid (HS.out.set_ k (p.getD d 0))
        have hw2 : IntKind.i64.wrap ((k : Int) - (n : Int)) = (d : Nat) := by rw [IntKind.wrap_i64]; omega
        generalize p.getD d 0 = x at *
        have hdi : (d : Int) < 8 := by omega
        have hd8 : d < 8 := by omega
        have HD := hid hd
        clear hd NEXT
        go_wp2
        go_roundw
        case rel => exact ⟨k + 1, _, by omega, by go_num, HX, SX⟩
        case measure => simp [intOf] <;> omega
    · obtain rfl : k = 8 := by omega
      have YE := hid (show ys = newL p l from by
        rw [FL.out]
        obtain ⟨y1, y2⟩ := HY.out
        exact list_ext (by rw [y1]; simp) fun j hj => by rw [y2 j (by omega)]; simp [show j < 8 by omega])
      have LY := hid HY.out.1
      clear hlt f0
      have hRow := hid (IB.setRow HS.out.R ys)
      have FIN := hid (below_setRow HS.out.bel (g := w.heap.size + 1) (by omega) (agi ys))
      go_wp2_with (first
        | (refine wpList_loadI rfl 22 (.tmp 5) rfl _ 22 ys 8 _ rfl HS.out.O Tryz.underlying22 rfl size8 LY.out ?_)
        | (refine wpList_storeI rfl 22 (.tmp 4) (.tmp 33) rfl _ 22 Z8 ys 8 rfl rfl HS.out.R size8 rfl LY.out ?_))
      refine bodyPost_ret (v := _) (hR _ _ _ 22 ys _ 8 rfl hRow.out Tryz.underlying22 rfl size8 LY.out) rfl ?_
      exact ⟨by rw [YE.out], FIN.out⟩
end Go.Proofs.YthoiikkjjaldnaaGreatDoor

/- The walks of the reference's rightFilter, newest and guess. -/
namespace Go.Proofs.YthoiikkjjaldnaaGreatDoor
set_option linter.unusedVariables false
set_option linter.unusedSimpArgs false
set_option maxRecDepth 100000
open Go.RowKit

/-- A block of numbers, read as a slice. -/
theorem rs_block {w : World} {g B : Nat} {t : TypeId} {xs : List Int} (h : IB w g t xs) (hg : g < B) : Rs w B (some ⟨g, 0, none⟩) xs :=
  ⟨by simp [ints], fun _ => ⟨_, rfl, hg, fun j u hu => by
    have hj : j < xs.length := by
      have := (List.getElem?_eq_some_iff.mp hu).1
      rwa [ints_len] at this
    rw [ints_get xs j hj] at hu
    rw [add_zero', ← hu]
    exact IB.cell h j hj⟩⟩

set_option maxHeartbeats 4000000 in
theorem rightFilter_any (a p l : List Int) (A : Option Addr) (c n B : Nat) (w : World) (ha : a.length = 9) (hp : p.length = 8) (hr : Rs w w.heap.size A l) (hn : l.length = n) (hl : n ≤ 17592186044416) :
    Calls Tryz.prog 135 #[.agg (agi a), .agg (agi p), .slice A n c] w (AnsB w (goodF a p l)) := by
  have hI := hid (IB.new w 90 a)
  have hJ := IB.new (w.alloc (.cells (agi a) 90)) 22 p
  simp only [World.size_alloc] at hJ
  have hRP := hid (show Rs ((w.alloc (.cells (agi a) 90)).alloc (.cells (agi p) 22)) (w.heap.size + 1 + 1) (some ⟨w.heap.size + 1, 0, none⟩) p from rs_block hJ (by omega))
  have hI := hid (Blk.alloc hI.out (.cells (agi p) 22))
  have HA := hid ha
  have HP := hid hp
  have HN := hid hn
  have HR := hid (hr.below (((Below.refl _ w).alloc (Nat.le_refl _) (.cells (agi a) 90)).alloc (by simp) (.cells (agi p) 22)))
  have HB := hid (((Below.refl _ w).alloc (Nat.le_refl _) (.cells (agi a) 90)).alloc (by simp) (.cells (agi p) 22))
  have hix := fun (k : Nat) (hk : k < 9) (w : World) => run_index_agi Tryz.underlying90 a ha k hk w
  have HIX := hid hix
  have K1 := hid (fun W (h : Rs W (w.heap.size + 1 + 1) (some ⟨w.heap.size + 1, 0, none⟩) p) => Right_any (some ⟨w.heap.size + 1, 0, none⟩) 8 8 (w.heap.size + 1 + 1) p W h hp (by omega))
  have K2 := hid (fun W (h : Rs W w.heap.size A l) => Right_any A c n w.heap.size l W h hn hl)
  clear ha hp hn hr hix hJ
  have c0 := IB.cell hI.out 0 (by rw [HA.out]; omega)
  obtain ⟨a0, ha0⟩ : ∃ a0, a0 = a.getD 0 0 := ⟨_, rfl⟩
  rw [← ha0] at c0
  have HA0 := hid ha0
  have C0 := hid c0
  clear ha0 c0
  go_enter Tryz.func135, Tryz.ntmps135
  go_wp2_with (refine wpList_loadI rfl 90 (.tmp 3) rfl _ 90 a 9 _ rfl hI.out Tryz.underlying90 rfl size9 HA.out ?_)
  go_loop [10] (fun iv => ∃ k : Nat, k ≤ 9 ∧ iv = .int .i64 k ∧ Hid (allTo okP1 a k)) (fun iv => 9 - (intOf iv).toNat)
  case atStart => exact ⟨0, by omega, rfl, hid allTo.zero⟩
  case round =>
    obtain ⟨k, hk, rfl, HY⟩ := hrel
    by_cases hlt : k < 9
    · have hix := HIX.out k hlt
      obtain ⟨x, hx⟩ : ∃ x, x = a.getD k 0 := ⟨_, rfl⟩
      rw [← hx] at hix
      have HX := hid hx
      clear hx
      by_cases b1 : x < -1048576
      · have HF := hid (show okP a = false from all_no (i := k) (by rw [HA.out]; exact hlt) (okP1_no (by rw [← HX.out]; exact .inl b1)))
        go_wp2
        go_ret
        exact ⟨by unfold goodF; rw [HF.out]; rfl, HB.out⟩
      by_cases b2 : 1048576 < x
      · have HF := hid (show okP a = false from all_no (i := k) (by rw [HA.out]; exact hlt) (okP1_no (by rw [← HX.out]; exact .inr b2)))
        go_wp2
        go_ret
        exact ⟨by unfold goodF; rw [HF.out]; rfl, HB.out⟩
      have HN2 := hid (HY.out.succ (by rw [← HX.out]; exact okP1_yes (by omega) (by omega)))
      go_wp2
      go_round
      case rel => exact ⟨k + 1, by omega, by go_num, HN2⟩
      case measure => simp [intOf] <;> omega
    · obtain rfl : k = 9 := by omega
      have HF9 := hid (show okP a = true from HY.out.all (by rw [HA.out]; exact Nat.le_refl _))
      clear hlt HY
      have c0 := C0.out
      by_cases h0 : a0 = 4096
      · have HA1 := hid (show a.getD 0 0 = 4096 by rw [← HA0.out, h0])
        obtain ⟨b2, hb2⟩ : ∃ b2, b2 = all16 p := ⟨_, rfl⟩
        have K1' := hid (K1.out _ hRP.out)
        rw [← hb2] at K1'
        cases b2 with
        | false =>
          have HB2 := hid hb2
          clear hb2
          go_wp2_with (go_at_call 70; (with_reducible refine K1'.out.mono ?_); rintro e w' ⟨rfl, rfl⟩)
          go_ret
          exact ⟨by unfold goodF; rw [HF9.out, HA1.out, ← HB2.out]; rfl, HB.out⟩
        | true =>
          have HB2 := hid hb2
          clear hb2
          go_wp2_with (first
            | (go_at_call 70; (with_reducible refine K1'.out.mono ?_); rintro e w' ⟨rfl, rfl⟩)
            | (go_at_call 70; (with_reducible refine (K2.out _ HR.out).mono ?_); rintro e w' ⟨rfl, rfl⟩))
          go_ret
          exact ⟨by unfold goodF; rw [HF9.out, HA1.out, ← HB2.out]; simp, HB.out⟩
      · have HA1 := hid (show decide (a.getD 0 0 = 4096) = false by rw [← HA0.out]; simpa using h0)
        go_wp2
        go_ret
        exact ⟨by unfold goodF; rw [HF9.out, HA1.out]; rfl, HB.out⟩
end Go.Proofs.YthoiikkjjaldnaaGreatDoor

/- The walk of the reference's guess. -/
namespace Go.Proofs.YthoiikkjjaldnaaGreatDoor
set_option linter.unusedVariables false
set_option linter.unusedSimpArgs false
set_option maxRecDepth 100000
open Go.RowKit

theorem agi8 (q0 q1 q2 q3 q4 q5 q6 q7 : Int) : agi [q0, q1, q2, q3, q4, q5, q6, q7] = #[.int .i64 q0, .int .i64 q1, .int .i64 q2, .int .i64 q3, .int .i64 q4, .int .i64 q5, .int .i64 q6, .int .i64 q7] := rfl

set_option maxHeartbeats 4000000 in
theorem refguess_any (a p l : List Int) (A : Option Addr) (c n m : Nat) (w : World) (ha : a.length = 9) (hp : p.length = 8) (oa : okP a = true) (op : all16 p = true) (ol : all16 l = true) (hr : Rs w w.heap.size A l) (hn : l.length = n) (hl : n ≤ 17592186044416) (hm : m ≤ n) (hc : n ≤ c) :
    Calls Tryz.prog 136 #[.agg (agi a), .agg (agi p), .slice A n c, .int .i64 m] w fun e w' => e = .returned (.int .i64 (guessL a (newL p (l.take m)))) ∧ Below w.heap.size w w' := by
  obtain ⟨p0, p1, p2, p3, p4, p5, p6, p7, rfl⟩ := list8 hp
  obtain ⟨ys, hy⟩ : ∃ ys, ys = newL [p0, p1, p2, p3, p4, p5, p6, p7] (l.take m) := ⟨_, rfl⟩
  have hyl : ys.length = 8 := by rw [hy]; exact newL_len _ _ rfl
  have h16 : all16 ys = true := by rw [hy]; exact newL_all _ _ op (all16_take ol m)
  have KN := fun (W : World) (hW : Rs W W.heap.size A (l.take m)) => newest_any [p0, p1, p2, p3, p4, p5, p6, p7] (l.take m) A c m 0 W rfl hW (by simp; omega) (by omega)
  rw [← hy] at KN ⊢
  obtain ⟨y0, y1, y2, y3, y4, y5, y6, y7, rfl⟩ := list8 hyl
  rw [agi8, agi8] at KN
  have KN := hid KN
  have hI := IB.new w 90 a
  have hJ := IB.new (w.alloc (.cells (agi a) 90)) 22 [p0, p1, p2, p3, p4, p5, p6, p7]
  simp only [World.size_alloc] at hJ
  have hI := Blk.alloc hI (.cells (agi [p0, p1, p2, p3, p4, p5, p6, p7]) 22)
  have hB := (((Below.refl _ w).alloc (Nat.le_refl _) (.cells (agi a) 90)).alloc (by simp) (.cells (agi [p0, p1, p2, p3, p4, p5, p6, p7]) 22))
  have hs : ((w.alloc (.cells (agi a) 90)).alloc (.cells (agi [p0, p1, p2, p3, p4, p5, p6, p7]) 22)).heap.size = w.heap.size + 1 + 1 := by simp
  have hr1 := hr.below hB
  have HA := hid ha
  have OA := hid oa
  have HY := hid hy
  have H16 := hid h16
  rw [agi8] at hI hJ hB hs hr1
  generalize hW : (w.alloc (.cells (agi a) 90)).alloc (.cells #[.int .i64 p0, .int .i64 p1, .int .i64 p2, .int .i64 p3, .int .i64 p4, .int .i64 p5, .int .i64 p6, .int .i64 p7] 22) = W at hI hJ hB hs hr1
  have c0 : W.cell? ⟨w.heap.size + 1, 0, none⟩ = some (.int .i64 p0) := IB.cell hJ 0 (by simp)
  have c1 : W.cell? ⟨w.heap.size + 1, 1, none⟩ = some (.int .i64 p1) := IB.cell hJ 1 (by simp)
  have c2 : W.cell? ⟨w.heap.size + 1, 2, none⟩ = some (.int .i64 p2) := IB.cell hJ 2 (by simp)
  have c3 : W.cell? ⟨w.heap.size + 1, 3, none⟩ = some (.int .i64 p3) := IB.cell hJ 3 (by simp)
  have c4 : W.cell? ⟨w.heap.size + 1, 4, none⟩ = some (.int .i64 p4) := IB.cell hJ 4 (by simp)
  have c5 : W.cell? ⟨w.heap.size + 1, 5, none⟩ = some (.int .i64 p5) := IB.cell hJ 5 (by simp)
  have c6 : W.cell? ⟨w.heap.size + 1, 6, none⟩ = some (.int .i64 p6) := IB.cell hJ 6 (by simp)
  have c7 : W.cell? ⟨w.heap.size + 1, 7, none⟩ = some (.int .i64 p7) := IB.cell hJ 7 (by simp)
  have HR2 := hid (fun W2 (hb : Below W.heap.size W W2) => (((hr1.take (k := m) (by omega)).below (hb.mono (by omega))).more (show w.heap.size ≤ W2.heap.size from by have := hb.size; omega)))
  have hm1 : (m : Int) ≤ c := by omega
  have hm0 : (0 : Int) ≤ m := by omega
  have hmc : m ≤ c := by omega
  have HI := hid hI
  have HB := hid hB
  have HW := hid hW
  have HS := hid hs
  clear hy hyl h16 hI hJ hB hr1 hs oa op ol ha hr hn
  go_enter Tryz.func136, Tryz.ntmps136
  go_wp2
  rw [agi8, hW]
  clear hW
  have HRZ := hid (HR2.out (W.alloc (.cells (agi Z8) 22)).drew (Below.drew ((Below.refl _ _).alloc (Nat.le_refl _) _)))
  have KZ := hid (KN.out (W.alloc (.cells (agi Z8) 22)).drew HRZ.out)
  rw [z8_eq] at KZ
  have hltJ : w.heap.size + 1 < W.heap.size := by have := HS.out; omega
  have hne1 : ¬ W.heap.size = w.heap.size + 1 := by omega
  have hne2 : ¬ w.heap.size + 1 = W.heap.size := by omega
  go_region_held3 (fun w' => w'.cell? ⟨w.heap.size + 1, 0, none⟩ = some (.int .i64 p0) ∧ w'.cell? ⟨w.heap.size + 1, 1, none⟩ = some (.int .i64 p1) ∧ w'.cell? ⟨w.heap.size + 1, 2, none⟩ = some (.int .i64 p2) ∧ w'.cell? ⟨w.heap.size + 1, 3, none⟩ = some (.int .i64 p3) ∧ w'.cell? ⟨w.heap.size + 1, 4, none⟩ = some (.int .i64 p4) ∧ w'.cell? ⟨w.heap.size + 1, 5, none⟩ = some (.int .i64 p5) ∧ w'.cell? ⟨w.heap.size + 1, 6, none⟩ = some (.int .i64 p6) ∧ w'.cell? ⟨w.heap.size + 1, 7, none⟩ = some (.int .i64 p7)) (go_keep) (first
    | (go_at_call 137; (with_reducible refine (KN.out W.drew (HR2.out _ (Below.drew (Below.refl _ _)))).mono ?_); rintro e w2 ⟨rfl, hB⟩; have HB2 := hid hB; clear hB; have hz2 : W.heap.size ≤ w2.heap.size := HB2.out.size; have n1 : ¬ w2.heap.size = w.heap.size + 1 := (by omega); have n2 : ¬ w.heap.size + 1 = w2.heap.size := (by omega); have k0 := (HB2.out.cell (p := ⟨w.heap.size + 1, 0, none⟩) (show w.heap.size + 1 < W.drew.heap.size from hltJ)).trans c0; have k1 := (HB2.out.cell (p := ⟨w.heap.size + 1, 1, none⟩) (show w.heap.size + 1 < W.drew.heap.size from hltJ)).trans c1; have k2 := (HB2.out.cell (p := ⟨w.heap.size + 1, 2, none⟩) (show w.heap.size + 1 < W.drew.heap.size from hltJ)).trans c2; have k3 := (HB2.out.cell (p := ⟨w.heap.size + 1, 3, none⟩) (show w.heap.size + 1 < W.drew.heap.size from hltJ)).trans c3; have k4 := (HB2.out.cell (p := ⟨w.heap.size + 1, 4, none⟩) (show w.heap.size + 1 < W.drew.heap.size from hltJ)).trans c4; have k5 := (HB2.out.cell (p := ⟨w.heap.size + 1, 5, none⟩) (show w.heap.size + 1 < W.drew.heap.size from hltJ)).trans c5; have k6 := (HB2.out.cell (p := ⟨w.heap.size + 1, 6, none⟩) (show w.heap.size + 1 < W.drew.heap.size from hltJ)).trans c6; have k7 := (HB2.out.cell (p := ⟨w.heap.size + 1, 7, none⟩) (show w.heap.size + 1 < W.drew.heap.size from hltJ)).trans c7)
    | (go_at_call 137; (with_reducible refine KZ.out.mono ?_); rintro e w2 ⟨rfl, hB⟩; have b9 : IB w2 W.heap.size 22 Z8 := Blk.below' (Blk.drew (IB.new W 22 Z8)) hB; have z0 : w2.cell? ⟨W.heap.size, 0, none⟩ = some (.int .i64 0) := IB.cell b9 0 (by decide); have g0 : w2.frozen? ⟨W.heap.size, 0, none⟩ = false := Blk.frozen b9 0; have z1 : w2.cell? ⟨W.heap.size, 1, none⟩ = some (.int .i64 0) := IB.cell b9 1 (by decide); have g1 : w2.frozen? ⟨W.heap.size, 1, none⟩ = false := Blk.frozen b9 1; have z2 : w2.cell? ⟨W.heap.size, 2, none⟩ = some (.int .i64 0) := IB.cell b9 2 (by decide); have g2 : w2.frozen? ⟨W.heap.size, 2, none⟩ = false := Blk.frozen b9 2; have z3 : w2.cell? ⟨W.heap.size, 3, none⟩ = some (.int .i64 0) := IB.cell b9 3 (by decide); have g3 : w2.frozen? ⟨W.heap.size, 3, none⟩ = false := Blk.frozen b9 3; have z4 : w2.cell? ⟨W.heap.size, 4, none⟩ = some (.int .i64 0) := IB.cell b9 4 (by decide); have g4 : w2.frozen? ⟨W.heap.size, 4, none⟩ = false := Blk.frozen b9 4; have z5 : w2.cell? ⟨W.heap.size, 5, none⟩ = some (.int .i64 0) := IB.cell b9 5 (by decide); have g5 : w2.frozen? ⟨W.heap.size, 5, none⟩ = false := Blk.frozen b9 5; have z6 : w2.cell? ⟨W.heap.size, 6, none⟩ = some (.int .i64 0) := IB.cell b9 6 (by decide); have g6 : w2.frozen? ⟨W.heap.size, 6, none⟩ = false := Blk.frozen b9 6; have z7 : w2.cell? ⟨W.heap.size, 7, none⟩ = some (.int .i64 0) := IB.cell b9 7 (by decide); have g7 : w2.frozen? ⟨W.heap.size, 7, none⟩ = false := Blk.frozen b9 7; have HB2 := hid hB; have B9 := hid b9; clear hB b9; have k0 := (HB2.out.cell (p := ⟨w.heap.size + 1, 0, none⟩) (by simp; omega)).trans (((Below.refl _ W).alloc (Nat.le_refl _) _).cell (p := ⟨w.heap.size + 1, 0, none⟩) hltJ |>.trans c0); have k1 := (HB2.out.cell (p := ⟨w.heap.size + 1, 1, none⟩) (by simp; omega)).trans (((Below.refl _ W).alloc (Nat.le_refl _) _).cell (p := ⟨w.heap.size + 1, 1, none⟩) hltJ |>.trans c1); have k2 := (HB2.out.cell (p := ⟨w.heap.size + 1, 2, none⟩) (by simp; omega)).trans (((Below.refl _ W).alloc (Nat.le_refl _) _).cell (p := ⟨w.heap.size + 1, 2, none⟩) hltJ |>.trans c2); have k3 := (HB2.out.cell (p := ⟨w.heap.size + 1, 3, none⟩) (by simp; omega)).trans (((Below.refl _ W).alloc (Nat.le_refl _) _).cell (p := ⟨w.heap.size + 1, 3, none⟩) hltJ |>.trans c3); have k4 := (HB2.out.cell (p := ⟨w.heap.size + 1, 4, none⟩) (by simp; omega)).trans (((Below.refl _ W).alloc (Nat.le_refl _) _).cell (p := ⟨w.heap.size + 1, 4, none⟩) hltJ |>.trans c4); have k5 := (HB2.out.cell (p := ⟨w.heap.size + 1, 5, none⟩) (by simp; omega)).trans (((Below.refl _ W).alloc (Nat.le_refl _) _).cell (p := ⟨w.heap.size + 1, 5, none⟩) hltJ |>.trans c5); have k6 := (HB2.out.cell (p := ⟨w.heap.size + 1, 6, none⟩) (by simp; omega)).trans (((Below.refl _ W).alloc (Nat.le_refl _) _).cell (p := ⟨w.heap.size + 1, 6, none⟩) hltJ |>.trans c6); have k7 := (HB2.out.cell (p := ⟨w.heap.size + 1, 7, none⟩) (by simp; omega)).trans (((Below.refl _ W).alloc (Nat.le_refl _) _).cell (p := ⟨w.heap.size + 1, 7, none⟩) hltJ |>.trans c7)))
  · have IA := Blk.alloc (Blk.below' (Blk.drew HI.out) HB2.out) (.cells (agi [y0, y1, y2, y3, y4, y5, y6, y7]) 22)
    have IY := IB.new w2 22 [y0, y1, y2, y3, y4, y5, y6, y7]
    have IL := ((HB.out.drew).trans (HB2.out.mono (show w.heap.size ≤ W.drew.heap.size from (show w.heap.size ≤ W.heap.size by omega)))).alloc (show w.heap.size ≤ w2.heap.size by omega) (.cells (agi [y0, y1, y2, y3, y4, y5, y6, y7]) 22)
    rw [agi8] at IA IL
    generalize hV : World.alloc w2 _ = V
    rw [hV] at IA IL
    have IY2 : IB V w2.heap.size 22 [y0, y1, y2, y3, y4, y5, y6, y7] := by rw [← hV]; exact IY
    generalize w2.heap.size = g9 at *
    have IA := hid IA
    have IY := hid IY2
    have IL := hid IL
    clear IY2 c0 k0 c1 k1 c2 k2 c3 k3 c4 k4 c5 k5 c6 k6 c7 k7
    go_wp2
    go_loopw [10, 11] (fun sv iv wr => ∃ (k : Nat) (s : Int), k ≤ 8 ∧ iv = .int .i64 ((k + 1 : Nat) : Int) ∧ sv = .int .i64 s ∧ Hid (s = 2048 + sumN (gterm a [y0, y1, y2, y3, y4, y5, y6, y7]) k) ∧ Hid (Blk wr w.heap.size 90 (agi a)) ∧ Hid (IB wr g9 22 [y0, y1, y2, y3, y4, y5, y6, y7]) ∧ Hid (Below w.heap.size w wr)) (fun _ iv _ => 9 - (intOf iv).toNat)
    case atStart => exact ⟨0, 2048, by omega, rfl, rfl, hid rfl, IA, IY, IL⟩
    case round =>
      clear IA IY IL
      obtain ⟨k, s, hk, rfl, rfl, HSM, IA, IY, IL⟩ := hrel
      by_cases hlt : k < 8
      · have ca := IB.cell IA.out (k + 1) (by rw [HA.out]; omega)
        have cy := IB.cell IY.out k (by simpa using hlt)
        have tb := gterm_bound OA.out H16.out k
        have sb := gsum_bound OA.out H16.out k
        have HT := hid (show 2048 + sumN (gterm a [y0, y1, y2, y3, y4, y5, y6, y7]) (k + 1) = s + gterm a [y0, y1, y2, y3, y4, y5, y6, y7] k by rw [HSM.out]; simp only [sumN]; omega)
        have hs := HSM.out
        have s1 : -300000000000 ≤ s := by omega
        have s2 : s ≤ 300000000000 := by omega
        clear hs sb HSM
        obtain ⟨t, ht⟩ : ∃ t, t = gterm a [y0, y1, y2, y3, y4, y5, y6, y7] k := ⟨_, rfl⟩
        rw [← ht] at HT tb
        unfold gterm at ht
        generalize a.getD (k + 1) 0 = x at *
        generalize [y0, y1, y2, y3, y4, y5, y6, y7].getD k 0 = y at *
        subst ht
        obtain ⟨t1, t2⟩ := tb
        have i1 : ((k + 1 : Nat) : Int) ≤ 8 := by omega
        have i2 : ((k + 1 : Nat) : Int) < 9 := by omega
        have i3 : (k : Int) < 8 := by omega
        have hwA : IntKind.i64.wrap (((k + 1 : Nat) : Int) - 1) = (k : Nat) := by rw [IntKind.wrap_i64]; omega
        have hwB : IntKind.i64.wrap (x * y) = x * y := by rw [IntKind.wrap_i64]; omega
        have hwC : IntKind.i64.wrap (s + x * y) = s + x * y := by rw [IntKind.wrap_i64]; omega
        go_wp2
        go_region
        all_goals
          clear hwA hwB hwC
          go_wp2
          go_roundw
          case rel => exact ⟨k + 1, _, by omega, by go_num, rfl, hid HT.out.symm, IA, IY, hid IL.out.drew⟩
          case measure => simp [intOf] <;> omega
      · obtain rfl : k = 8 := by omega
        have sb := gsum_bound OA.out H16.out 8
        have hs := HSM.out
        have s1 : -300000000000 ≤ s := by omega
        have s2 : s ≤ 300000000000 := by omega
        have HF := hid (show s / 4096 = guessL a [y0, y1, y2, y3, y4, y5, y6, y7] by unfold guessL; rw [HSM.out])
        have KD := hid (fun W => down12 s W (by omega) (by omega))
        clear hs sb
        go_wp2_with (go_at_call 110; (with_reducible refine (KD.out _).mono ?_); rintro e w9 ⟨rfl, hB⟩; have HB9 := hid hB; clear hB)
        go_ret
        exact ⟨by rw [← HF.out]; rfl, IL.out.trans (HB9.out.mono IL.out.size)⟩
  · have IA0 := Blk.below' (Blk.drew (Blk.alloc HI.out (.cells (agi Z8) 22))) HB2.out
    have far : ∀ (W2 : World) (i : Nat) (v : Value), Blk W2 w.heap.size 90 (agi a) → Blk (W2.setCell ⟨W.heap.size, i, none⟩ v) w.heap.size 90 (agi a) := fun W2 i v h => Blk.far h (show w.heap.size ≠ W.heap.size by omega) v
    have IA := far _ 7 (.int .i64 y7) (far _ 6 (.int .i64 y6) (far _ 5 (.int .i64 y5) (far _ 4 (.int .i64 y4) (far _ 3 (.int .i64 y3) (far _ 2 (.int .i64 y2) (far _ 1 (.int .i64 y1) (far _ 0 (.int .i64 y0) IA0)))))))
    have IY2 := IB.set8 B9.out y0 y1 y2 y3 y4 y5 y6 y7
    have IL := below_set8 (((HB.out.alloc (show w.heap.size ≤ W.heap.size by omega) (.cells (agi Z8) 22)).drew).trans (HB2.out.mono (by simp; omega))) (show w.heap.size ≤ W.heap.size by omega) y0 y1 y2 y3 y4 y5 y6 y7
    generalize World.setCell _ _ _ = V at *
    generalize W.heap.size = g9 at *
    have IA := hid IA
    have IY := hid IY2
    have IL := hid IL
    clear IY2 c0 k0 c1 k1 c2 k2 c3 k3 c4 k4 c5 k5 c6 k6 c7 k7
    go_wp2
    go_loopw [10, 11] (fun sv iv wr => ∃ (k : Nat) (s : Int), k ≤ 8 ∧ iv = .int .i64 ((k + 1 : Nat) : Int) ∧ sv = .int .i64 s ∧ Hid (s = 2048 + sumN (gterm a [y0, y1, y2, y3, y4, y5, y6, y7]) k) ∧ Hid (Blk wr w.heap.size 90 (agi a)) ∧ Hid (IB wr g9 22 [y0, y1, y2, y3, y4, y5, y6, y7]) ∧ Hid (Below w.heap.size w wr)) (fun _ iv _ => 9 - (intOf iv).toNat)
    case atStart => exact ⟨0, 2048, by omega, rfl, rfl, hid rfl, IA, IY, IL⟩
    case round =>
      clear IA IY IL
      obtain ⟨k, s, hk, rfl, rfl, HSM, IA, IY, IL⟩ := hrel
      by_cases hlt : k < 8
      · have ca := IB.cell IA.out (k + 1) (by rw [HA.out]; omega)
        have cy := IB.cell IY.out k (by simpa using hlt)
        have tb := gterm_bound OA.out H16.out k
        have sb := gsum_bound OA.out H16.out k
        have HT := hid (show 2048 + sumN (gterm a [y0, y1, y2, y3, y4, y5, y6, y7]) (k + 1) = s + gterm a [y0, y1, y2, y3, y4, y5, y6, y7] k by rw [HSM.out]; simp only [sumN]; omega)
        have hs := HSM.out
        have s1 : -300000000000 ≤ s := by omega
        have s2 : s ≤ 300000000000 := by omega
        clear hs sb HSM
        obtain ⟨t, ht⟩ : ∃ t, t = gterm a [y0, y1, y2, y3, y4, y5, y6, y7] k := ⟨_, rfl⟩
        rw [← ht] at HT tb
        unfold gterm at ht
        generalize a.getD (k + 1) 0 = x at *
        generalize [y0, y1, y2, y3, y4, y5, y6, y7].getD k 0 = y at *
        subst ht
        obtain ⟨t1, t2⟩ := tb
        have i1 : ((k + 1 : Nat) : Int) ≤ 8 := by omega
        have i2 : ((k + 1 : Nat) : Int) < 9 := by omega
        have i3 : (k : Int) < 8 := by omega
        have hwA : IntKind.i64.wrap (((k + 1 : Nat) : Int) - 1) = (k : Nat) := by rw [IntKind.wrap_i64]; omega
        have hwB : IntKind.i64.wrap (x * y) = x * y := by rw [IntKind.wrap_i64]; omega
        have hwC : IntKind.i64.wrap (s + x * y) = s + x * y := by rw [IntKind.wrap_i64]; omega
        go_wp2
        go_region
        all_goals
          clear hwA hwB hwC
          go_wp2
          go_roundw
          case rel => exact ⟨k + 1, _, by omega, by go_num, rfl, hid HT.out.symm, IA, IY, hid IL.out.drew⟩
          case measure => simp [intOf] <;> omega
      · obtain rfl : k = 8 := by omega
        have sb := gsum_bound OA.out H16.out 8
        have hs := HSM.out
        have s1 : -300000000000 ≤ s := by omega
        have s2 : s ≤ 300000000000 := by omega
        have HF := hid (show s / 4096 = guessL a [y0, y1, y2, y3, y4, y5, y6, y7] by unfold guessL; rw [HSM.out])
        have KD := hid (fun W => down12 s W (by omega) (by omega))
        clear hs sb
        go_wp2_with (go_at_call 110; (with_reducible refine (KD.out _).mono ?_); rintro e w9 ⟨rfl, hB⟩; have HB9 := hid hB; clear hB)
        go_ret
        exact ⟨by rw [← HF.out]; rfl, IL.out.trans (HB9.out.mono IL.out.size)⟩
end Go.Proofs.YthoiikkjjaldnaaGreatDoor

/- The walks of the reference's Make and Undo. -/
namespace Go.Proofs.YthoiikkjjaldnaaGreatDoor
set_option linter.unusedVariables false
set_option linter.unusedSimpArgs false
set_option maxRecDepth 100000
open Go.RowKit

set_option maxHeartbeats 4000000 in
theorem refMake_any (a p l : List Int) (A0 : Option Addr) (c0 n : Nat) (w : World) (ha : a.length = 9) (hp : p.length = 8) (hr : Rs w w.heap.size A0 l) (hn : l.length = n) (hl : n ≤ 17592186044000) (hc : n ≤ c0) :
    Calls Tryz.prog 57 #[.agg (agi a), .agg (agi p), .slice A0 n c0] w (NewSP w (if goodF a p l then makeN a p l n else []) (if goodF a p l then newL p (makeN a p l n) else Z8) (errOf (goodF a p l))) := by
  have hR := results_mid3 (fn := Tryz.f57) (p := 6) (q := 7) (r := 8) (ty := 22) rfl
  have S0 := Sx.start w a p
  have R0 := hr.below S0.bel
  rw [z8_eq] at S0
  rw [z8_eq] at R0
  have S0 := hid S0
  have R0 := hid R0
  have HA := hid ha
  have HP := hid hp
  have HN := hid hn
  have HR := hid hr
  have KG := hid (fun (W : World) (hW : Rs W W.heap.size A0 l) => rightFilter_any a p l A0 c0 n 0 W ha hp hW hn (by omega))
  clear ha hp hn hr
  obtain ⟨Y, hY⟩ : ∃ Y, Y = (if goodF a p l then makeN a p l n else []) := ⟨_, rfl⟩
  obtain ⟨Z, hZ⟩ : ∃ Z, Z = (if goodF a p l then newL p (makeN a p l n) else Z8) := ⟨_, rfl⟩
  rw [← hY, ← hZ]
  have HYY := hid hY
  have HZZ := hid hZ
  clear hY hZ
  go_enter Tryz.func57, Tryz.ntmps57
  go_wp2_with (first
    | (refine wpList_loadI rfl 90 (.tmp 3) rfl _ 90 a 9 _ rfl S0.out.A Tryz.underlying90 rfl size9 HA.out ?_)
    | (refine wpList_loadI rfl 22 (.tmp 4) rfl _ 22 p 8 _ rfl S0.out.P Tryz.underlying22 rfl size8 HP.out ?_))
  refine (KG.out _ (R0.out.more (by simp; omega))).mono ?_
  rintro e w1 ⟨rfl, hB⟩
  have S1 := hid (S0.out.below hB)
  clear hB S0 R0 KG
  by_cases hg : goodF a p l = true
  · have HG := hid hg
    rw [hg]
    have y1 := HYY.out
    have z1 := HZZ.out
    rw [if_pos hg] at y1 z1
    have HY1 := hid y1
    have HZ1 := hid z1
    clear y1 z1
    obtain ⟨ga, gz, gp, gl⟩ : okP a = true ∧ a.getD 0 0 = 4096 ∧ all16 p = true ∧ all16 l = true := by simpa [goodF] using hg
    have GA := hid ga
    have GP := hid gp
    have GL := hid gl
    clear hg ga gz gp gl
    go_wp2
    go_loopw [9, 20] (fun ov iv wr => ∃ (k : Nat) (A : Option Addr) (c : Nat) (ys : List Int), k ≤ n ∧ iv = .int .i64 k ∧ ov = .slice A k c ∧ Hid (ys = makeN a p l k) ∧ Hid (Own wr (w.heap.size + 3) A c ys) ∧ Hid (Sx w wr a p)) (fun _ iv _ => n - (intOf iv).toNat)
    case atStart => exact ⟨0, none, 0, [], by omega, rfl, rfl, hid rfl, hid Own.nil, S1⟩
    case round =>
      clear S1
      obtain ⟨k, A, c, ys, hk, rfl, rfl, HY, HO, HS⟩ := hrel
      have YL := hid (show ys.length = k by rw [HY.out, makeN_len])
      by_cases hlt : k < n
      · obtain ⟨ad, rfl, hadb, c1⟩ := (HR.out.below HS.out.bel).at_ (k := k) (by rw [HN.out]; exact hlt)
        have xb := all16_at GL.out k
        have YT := hid (show ys.take k = ys from List.take_of_length_le (by rw [YL.out]; exact Nat.le_refl _))
        have q16 := hid (show all16 (newL p ys) = true from newL_all _ _ GP.out (by rw [HY.out]; exact makeN_all _ _ _ _))
        have KC := hid (show k ≤ c from by have := HO.out.cap.1; rw [YL.out] at this; exact this)
        have YN := hid (show ys ++ [s16 (l.getD k 0 - guessL a (newL p ys))] = makeN a p l (k + 1) by rw [makeN, ← HY.out])
        obtain ⟨x, hx⟩ : ∃ x, x = l.getD k 0 := ⟨_, rfl⟩
        rw [← hx] at c1 xb YN
        have gb := guess_bound GA.out q16.out
        have K1 := hid (fun W hW => refguess_any a p ys A c k k W HA.out HP.out GA.out GP.out (by rw [HY.out]; exact makeN_all _ _ _ _) hW YL.out (by omega) (Nat.le_refl _) KC.out)
        rw [YT.out] at K1
        generalize guessL a (newL p ys) = g at *
        obtain ⟨x1, x2⟩ := xb
        obtain ⟨g1, g2⟩ := gb
        have hw1 : IntKind.i64.wrap (x - g) = x - g := by rw [IntKind.wrap_i64]; omega
        have RO := hid (HO.out.reads)
        obtain ⟨y, hy⟩ : ∃ y, y = s16 (x - g) := ⟨_, rfl⟩
        rw [← hy] at YN
        have HX := hid hx
        have KS := hid (fun W => S_any (x - g) W (by omega) (by omega))
        rw [← hy] at KS
        clear hx hy
        go_wp2_with (first
          | (refine wpList_loadI rfl 90 (.tmp 3) rfl _ 90 a 9 _ rfl HS.out.A Tryz.underlying90 rfl size9 HA.out ?_)
          | (refine wpList_loadI rfl 22 (.tmp 4) rfl _ 22 p 8 _ rfl HS.out.P Tryz.underlying22 rfl size8 HP.out ?_))
        refine (K1.out _ RO.out).mono ?_
        rintro e w2 ⟨rfl, hB⟩
        have S2 := hid (HS.out.below hB)
        have O2 := hid (HO.out.below hB)
        clear hB HS HO c1
        go_wp2_with fail
        refine (KS.out _).mono ?_
        rintro e w3 ⟨rfl, hB⟩
        have S3 := hid (S2.out.below hB)
        have O3 := hid (O2.out.below hB)
        clear hB S2 O2
        go_wp2_with (at_builtin; refine wpList_pushN rfl (.tmp 25) (.tmp 34) rfl (w.heap.size + 3) A c k ys rfl YL.out (O3.out.alloc _) ⟨w3.heap.size, 0, none⟩ y rfl (cell_new w3 _ _) (by omega) (Nat.le_trans S3.out.lt (by simp)) ?_; intro A2 c2 w5 hO hG hA; have O5 := hid hO; have G5 := hid hG; clear hO hG hA)
        have S5 := hid ((S3.out.alloc _).grown (O3.out.alloc _) G5.out)
        go_wp2
        go_roundw
        case rel => exact ⟨k + 1, A2, c2, _, by omega, by go_num, rfl, YN, O5, S5⟩
        case measure => simp [intOf] <;> omega
      · obtain rfl : k = n := by omega
        have FY := hid (show Y = ys by rw [HY1.out, HY.out])
        have KC := hid (show k ≤ c from by have := HO.out.cap.1; rw [YL.out] at this; exact this)
        have KN := hid (fun (W : World) (hW : Rs W W.heap.size A ys) => newest_any p ys A c k 0 W HP.out hW YL.out (by omega))
        have FZ := hid (show Z = newL p ys by rw [HZ1.out, HY.out])
        have ZL := hid (show (newL p ys).length = 8 from newL_len _ _ HP.out)
        have RO := hid (HO.out.reads)
        go_wp2_with (refine wpList_loadI rfl 22 (.tmp 4) rfl _ 22 p 8 _ rfl HS.out.P Tryz.underlying22 rfl size8 HP.out ?_)
        refine (KN.out _ RO.out).mono ?_
        rintro e w2 ⟨rfl, hB⟩
        have S2 := hid (HS.out.below hB)
        have O2 := hid (HO.out.below hB)
        clear hB HS HO
        go_wp2_with (refine wpList_storeI rfl 22 (.tmp 7) (.tmp 40) rfl _ 22 Z8 (newL p ys) 8 rfl rfl S2.out.R size8 rfl ZL.out ?_)
        refine bodyPost_ret (v := _) (hR _ _ _ 22 (newL p ys) _ 8 rfl (IB.setRow S2.out.R _) Tryz.underlying22 rfl size8 ZL.out) rfl ?_
        exact ⟨A, c, by rw [FY.out, FZ.out, YL.out, HG.out]; rfl, by rw [FY.out]; exact (O2.out.setRow (by omega) _).more (by omega), below_setRow S2.out.bel (by omega) _⟩
  · have hb : goodF a p l = false := by simpa using hg
    rw [hb]
    have hRow := hid (S1.out.R)
    go_wp2_with (refine wpList_storeI rfl 22 (.tmp 7) (.tmp 17) rfl _ 22 Z8 Z8 8 rfl rfl S1.out.R size8 rfl rfl ?_)
    refine bodyPost_ret (v := _) (hR _ _ _ 22 Z8 _ 8 rfl (IB.setRow S1.out.R Z8) Tryz.underlying22 rfl size8 rfl) rfl ?_
    have y1 := HYY.out
    have z1 := HZZ.out
    rw [if_neg hg] at y1 z1
    subst y1
    subst z1
    exact ⟨none, 0, by rw [hb]; rfl, Own.nil, below_setRow S1.out.bel (by omega) _⟩
end Go.Proofs.YthoiikkjjaldnaaGreatDoor

/- The reference's half of speech and predictor. -/
namespace Go.Proofs.YthoiikkjjaldnaaGreatDoor
set_option linter.unusedVariables false
set_option linter.unusedSimpArgs false
set_option maxRecDepth 100000
open Go.RowKit

theorem w64_in {xs : List Int} (h : all16 xs = true) : W64 xs := w64_of16 h
theorem goodM_64 {m : Mm} (g : goodM m = true) : W64 m.nums := by
  obtain ⟨h1, h2, h3, t1, t2, t3, t4, t5⟩ := goodM_of g
  refine w64_parts.2 ⟨fun x hx => ?_, w64_of16 h2, w64_of16 h3, fun x hx => ?_⟩
  · have := List.all_eq_true.1 h1 x hx
    unfold okK at this
    have h4 : -31000 ≤ x ∧ x ≤ 31000 := by simpa using this
    omega
  · simp only [List.mem_cons, List.not_mem_nil, or_false] at hx
    rcases hx with rfl | rfl | rfl | rfl | rfl <;> omega
theorem spC_64 (u : List Int) : W64 (spC u) := by
  unfold spC blL
  split
  · intro x hx
    obtain ⟨i, _, rfl⟩ := List.mem_map.1 hx
    have := glV_range (u.getD 7 0)
    unfold blE
    split
    · split <;> omega
    · omega
  · intro x hx; cases hx
/-- The boxes: the memory, the numbers, the answer's. -/
structure Hs (w wr : World) (m : Mm) (u : List Int) : Prop where
  A : MB wr w.heap.size m
  U : IB wr (w.heap.size + 1) 35 u
  R : MB wr (w.heap.size + 2) zeroM
  bel : Below w.heap.size w wr
theorem Hs.start (w : World) (m : Mm) (u : List Int) : Hs w (((w.alloc (.cells m.ag 25)).alloc (.cells (agi u) 35)).alloc (.cells Tryz.zeroCells25 25)) m u := by
  have h1 := MB.new w m
  have h2 := IB.new (w.alloc (.cells m.ag 25)) 35 u
  have h3 := newzero ((w.alloc (.cells m.ag 25)).alloc (.cells (agi u) 35))
  simp only [World.size_alloc] at h2 h3
  exact ⟨Blk.alloc (Blk.alloc h1 _) _, Blk.alloc h2 _, h3, (((Below.refl _ _).alloc (Nat.le_refl _) _).alloc (by simp) _).alloc (by simp; omega) _⟩
section
variable {w wr w' : World} {m : Mm} {u : List Int}
theorem Hs.below (s : Hs w wr m u) (hb : Below wr.heap.size wr w') : Hs w w' m u := ⟨Blk.below' s.A hb, Blk.below' s.U hb, Blk.below' s.R hb, s.bel.trans (hb.mono s.bel.size)⟩
theorem Hs.lt (s : Hs w wr m u) : w.heap.size + 3 ≤ wr.heap.size := Blk.lt s.R
theorem Hs.setE (s : Hs w wr m u) (k : m.ok) (e : List Int) (he : e.length = 80) : Hs w (wr.setCells w.heap.size 16 (ints e)) { m with e := e } u :=
  ⟨s.A.set_e k e he, blk_sc (by omega) _ _ _ s.U, blk_sc (by omega) _ _ _ s.R, below_sc (Nat.le_refl _) _ _ _ s.bel⟩
theorem Hs.set3 (s : Hs w wr m u) (k : m.ok) (x y z : Int) : Hs w (((wr.setCell ⟨w.heap.size, 98, none⟩ (.int .i64 x)).setCell ⟨w.heap.size, 97, none⟩ (.int .i64 y)).setCell ⟨w.heap.size, 96, none⟩ (.int .i64 z)) { m with la := x, pi := y, ga := z } u :=
  ⟨((s.A.set_la k x).set_pi ⟨k.r, k.p, k.e⟩ y).set_ga ⟨k.r, k.p, k.e⟩ z, blk_sc3 (by omega) s.U _ _ _ _ _ _, blk_sc3 (by omega) s.R _ _ _ _ _ _, below_sc3 (Nat.le_refl _) s.bel _ _ _ _ _ _⟩
end

set_option maxHeartbeats 4000000 in
theorem spoken_any (m : Mm) (k : m.ok) (u : List Int) (w : World) (T1 : TabS w 5 rootsL) (T2 : TabS w 1 gainsL) (hu : UOk u) (hw : W64 m.e) :
    Calls Tryz.prog 56 #[.agg m.ag, .agg (agi u)] w (PlayA w (spM m u) (spX m u)) := by
  have hR := results_mem2 (fn := Tryz.f56) (p := 4) (q := 5) rfl
  have S0 := Hs.start w m u
  obtain ⟨V, hV⟩ : ∃ V, V = (((w.alloc (.cells m.ag 25)).alloc (.cells (agi u) 35)).alloc (.cells Tryz.zeroCells25 25)) := ⟨_, rfl⟩
  rw [← hV] at S0
  have HV := hid hV.symm
  have S0 := hid S0
  have K := hid k
  have UL := hid hu.l
  have h59 := hu.a
  have KL := hid (refGainLevel_any (u.getD 7 0) V (T1.below S0.out.bel))
  unfold GlAns at KL
  have KG := hid (fun W (h : Below w.heap.size w W) => refGain_any (u.getD 1 0) W (T2.below h))
  have KB := hid (fun W => show Calls Tryz.prog 129 #[.agg (ints ((u.drop 2).take 4)).toArray, .int .i64 (u.getD 6 0), .int .i64 (glV (u.getD 7 0))] W (NewSE W (spC u) (errOf (blB (uI u) (u.getD 6 0) (glV (u.getD 7 0))))) from refBuild_any (uI u) (u.getD 6 0) (glV (u.getD 7 0)) W (uI_len hu.l))
  have CL := hid (spC_len hu)
  have XL := hid (spX_len hu m)
  have KX := hid (fun W A c (h : Rs W W.heap.size A (spC u)) => show Calls Tryz.prog 133 #[.agg (ints m.e).toArray, .int .i64 (20 + u.getD 0 0), .int .i64 (gainV (u.getD 1 0)), .slice A 40 c] W (NewSE W (spX m u) (mxR (20 + u.getD 0 0) (gainV (u.getD 1 0)) 40)) from refMix_any m.e (spC u) _ _ A c 40 W k.e h (spC_len hu) (by omega) hw (spC_64 u))
  have KK := hid (fun W A c (h : Rs W W.heap.size A (spX m u)) => show Calls Tryz.prog 134 #[.agg (ints m.e).toArray, .slice A 40 c] W (fun e w' => e = .returned (.tuple #[.agg (agi (keepL m.e (spX m u))), .int .i64 0]) ∧ Below W.heap.size W w') from refKeep_any m.e _ A c 40 W k.e h (spX_len hu m) (by omega) (w64_of16 (spX_in m u)))
  have EL := hid (keepL_len k.e (spX_len hu m))
  have FM := hid (show spM m u = { m with e := keepL m.e (spX m u), la := 20 + u.getD 0 0, pi := gainV (u.getD 1 0), ga := glV (u.getD 7 0) } from rfl)
  have OKS := hid (spM_ok k hu)
  have hi80 : (Tryz.prog.info? 23).map (·.size) = some (ints m.e).length := by rw [ints_len, k.e]; exact size80k
  have HI80 := hid hi80
  have hi4 : (Tryz.prog.info? 33).map (·.size) = some (ints ((u.drop 2).take 4)).length := by rw [ints_len, show ((u.drop 2).take 4).length = 4 from uI_len hu.l]; exact size4h
  have HI4 := hid hi4
  have SZ := hid (show (Tryz.prog.info? 23).map (·.size) = some (agi (keepL m.e (spX m u))).size from by rw [agi_size, keepL_len k.e (spX_len hu m)]; exact size80k)
  have c7 := S0.out.U.cell 7 (by rw [hu.l]; omega)
  clear k hu hi80 hi4 T1 T2 hV hw
  generalize spM m u = ms at *
  generalize spX m u = x at *
  generalize spC u = code at *
  generalize errOf (blB (uI u) (u.getD 6 0) (glV (u.getD 7 0))) = er1 at *
  generalize mxR (20 + u.getD 0 0) (gainV (u.getD 1 0)) 40 = er2 at *
  generalize errOf (glB (u.getD 7 0)) = er3 at *
  generalize errOf (gainB (u.getD 1 0)) = er4 at *
  generalize gainV (u.getD 1 0) = g at *
  generalize glV (u.getD 7 0) = size at *
  generalize keepL m.e x = e2 at *
  generalize u.getD 7 0 = l7 at *
  obtain ⟨l0, hl0⟩ : ∃ l0, l0 = u.getD 0 0 := ⟨_, rfl⟩
  obtain ⟨l1, hl1⟩ : ∃ l1, l1 = u.getD 1 0 := ⟨_, rfl⟩
  obtain ⟨l6, hl6⟩ : ∃ l6, l6 = u.getD 6 0 := ⟨_, rfl⟩
  have HL0 := hid hl0
  have HL1 := hid hl1
  have HL6 := hid hl6
  rw [← hl0] at KX FM h59
  rw [← hl1] at KG
  rw [← hl6] at KB
  clear hl0 hl1 hl6
  go_enter Tryz.func56, Tryz.ntmps56
  go_wp2_with (first
    | (rw [HV.out]; clear HV)
    | (go_at_call 131; (with_reducible refine KL.out.mono ?_); rintro e w1 ⟨rfl, hB⟩; have S1 := hid (S0.out.below hB); clear hB; have d1 := S1.out.U.cell 1 (by rw [UL.out]; omega); have d6 := S1.out.U.cell 6 (by rw [UL.out]; omega); rw [← HL1.out] at d1; rw [← HL6.out] at d6)
    | (go_at_call 132; (with_reducible refine (KG.out w1 S1.out.bel).mono ?_); rintro e w' ⟨rfl, rfl⟩)
    | (refine wpList_load_mid rfl 33 (.tmp 27) rfl _ _ rfl (ints ((u.drop 2).take 4)) _ (S1.out.U.mid 2 4 (by rw [UL.out]; omega)) Tryz.underlying33 rfl HI4.out ?_)
    | (go_at_call 129; (with_reducible refine (KB.out w1).mono ?_); rintro e w2 ⟨A1, c1', rfl, hO, hB⟩; have S2 := hid (S1.out.below hB); have O2 := hid hO.reads; clear hO hB; rw [CL.out]; have cu := S2.out.U.cell 0 (by rw [UL.out]; omega); rw [← HL0.out] at cu)
    | (refine wpList_load_mid rfl 23 (.tmp 36) rfl _ _ rfl (ints m.e) _ (S2.out.A.E K.out) Tryz.underlying23 rfl HI80.out ?_)
    | (go_at_call 133; (with_reducible refine (KX.out w2 A1 c1' O2.out).mono ?_); rintro e w3 ⟨A2, c2, rfl, hO, hB⟩; have S3 := hid (S2.out.below hB); have O3 := hid hO; have LT1 := hid S2.out.lt; clear hO hB; rw [XL.out])
    | (refine wpList_load_mid rfl 23 (.tmp 47) rfl _ _ rfl (ints m.e) _ (S3.out.A.E K.out) Tryz.underlying23 rfl HI80.out ?_))
  with_reducible refine (KK.out w3 A2 c2 O3.out.reads).mono ?_
  rintro e w4 ⟨rfl, hB⟩
  have S4 := hid (S3.out.below hB)
  have O4 := hid (O3.out.below hB)
  clear hB
  have S5 := hid (S4.out.setE K.out e2 EL.out)
  have O5 := hid (Own.setCs (g := w.heap.size) (by have := LT1.out; omega) (ints e2) 16 _ O4.out)
  have TH := hid (show w4.there w.heap.size 16 (agi e2).size from by rw [agi_size, EL.out]; exact S4.out.A.thereE K.out)
  obtain ⟨w5, hw5⟩ : ∃ w5, w5 = w4.setCells w.heap.size 16 (ints e2) := ⟨_, rfl⟩
  rw [← hw5] at S5 O5
  have HW5 := hid hw5
  have K5 := hid (K.out.ex EL.out)
  have cu5 := S5.out.U.cell 0 (by rw [UL.out]; omega)
  rw [← HL0.out] at cu5
  have d98 := S5.out.A.cla K5.out
  have d97 := S5.out.A.cpi K5.out
  have d96 := S5.out.A.cga K5.out
  have f98 := MB.frozen S5.out.A 98
  have f97 := MB.frozen S5.out.A 97
  have f96 := MB.frozen S5.out.A 96
  have S6 := hid (show Hs w _ ms u from FM.out ▸ S5.out.set3 K5.out (20 + l0) g size)
  have O6 := hid (own_sc3 (b := w.heap.size) (by have := LT1.out; omega) O5.out 98 97 96 (.int .i64 (20 + l0)) (.int .i64 g) (.int .i64 size))
  obtain ⟨w6, hw6⟩ : ∃ w6, w6 = ((w5.setCell ⟨w.heap.size, 98, none⟩ (.int .i64 (20 + l0))).setCell ⟨w.heap.size, 97, none⟩ (.int .i64 g)).setCell ⟨w.heap.size, 96, none⟩ (.int .i64 size) := ⟨_, rfl⟩
  rw [← hw6] at S6 O6
  have HW6 := hid hw6.symm
  clear hw5 hw6 S3 S2 S1 S0 O2 O3 O4 KX KK KL KG KB c7 d1 d6 cu
  go_wp2_with (first
    | (refine wpList_store_mid rfl 23 (.tmp 53) (.tmp 51) rfl w.heap.size 16 (agi e2) rfl rfl TH.out SZ.out (agi_one _) ?_; rw [show (agi e2).toList = ints e2 from rfl, ← HW5.out])
    | (rw [HW6.out]; clear HW6 d98 d97 d96 f98 f97 f96 cu5 HW5 TH)
    | (refine wpList_loadM rfl (.tmp 2) rfl _ ms rfl S6.out.A OKS.out ?_)
    | (refine wpList_storeM rfl (.tmp 4) (.tmp 62) rfl _ zeroM ms rfl rfl S6.out.R zeroM_ok OKS.out ?_))
  refine bodyPost_ret (v := _) (hR _ _ _ ms rfl (MB.setRow S6.out.R ms) OKS.out) rfl ?_
  exact ⟨A2, c2, by rw [XL.out]; rfl, (O6.out.setRow (g := w.heap.size + 2) (by have := LT1.out; omega) ms.ag).more (base' := w.heap.size) (by have := LT1.out; omega), below_setRow S6.out.bel (g := w.heap.size + 2) (by omega) ms.ag⟩
end Go.Proofs.YthoiikkjjaldnaaGreatDoor

/- The reference's predictor and Play. -/
namespace Go.Proofs.YthoiikkjjaldnaaGreatDoor
set_option linter.unusedVariables false
set_option linter.unusedSimpArgs false
set_option maxRecDepth 100000
open Go.RowKit

set_option maxHeartbeats 2000000 in
theorem predictor_any (was now : List Int) (s : Nat) (w : World) (ha : was.length = 8) (hb : now.length = 8) (hs : s < 2) (sa : steadyB was = true) (sb : steadyB now = true) :
    Calls Tryz.prog 54 #[.agg (agi was), .agg (agi now), .int .i64 (s : Nat)] w (fun e w' => e = .returned (.agg (agi (frA was now s))) ∧ Below w.heap.size w w') := by
  have hR := results_row1 (fn := Tryz.f54) (p := 6) (ty := 90) rfl
  have h1 := IB.new w 22 was
  have h2 := IB.new (w.alloc (.cells (agi was) 22)) 22 now
  have h3 := IB.new ((w.alloc (.cells (agi was) 22)).alloc (.cells (agi now) 22)) 90 Z9
  simp only [World.size_alloc] at h2 h3
  have B0 := (((Below.refl _ _).alloc (Nat.le_refl w.heap.size) (.cells (agi was) 22)).alloc (by simp) (.cells (agi now) 22)).alloc (by simp; omega) (.cells (agi Z9) 90)
  have A0 := hid (Blk.alloc (Blk.alloc h1 (.cells (agi now) 22)) (.cells (agi Z9) 90))
  have N0 := hid (Blk.alloc h2 (.cells (agi Z9) 90))
  have R0 := hid h3
  have B0 := hid B0
  obtain ⟨V, hV⟩ : ∃ V, V = ((w.alloc (.cells (agi was) 22)).alloc (.cells (agi now) 22)).alloc (.cells (agi Z9) 90) := ⟨_, rfl⟩
  rw [← hV] at A0 N0 R0 B0
  rw [z9_eq] at hV
  have HV := hid hV.symm
  have HA := hid ha
  have HB := hid hb
  obtain ⟨fa, hfa⟩ : ∃ fa, fa = frA was now s := ⟨_, rfl⟩
  have FL := hid (show fa.length = 9 from by rw [hfa]; exact frA_len _ _ _)
  have hs2 : s = 0 ∨ s = 1 := by omega
  rcases hs2 with rfl | rfl
  · have KM := hid (fun W => show Calls Tryz.prog 119 #[.agg (agi was), .agg (agi now), .int .i64 2] W (Mixes W was now 2) from refLmix_any was now 2 W ha hb (by omega) (by omega))
    have ML := hid (mixL_len was now 2)
    have KD := hid (fun W => show Calls Tryz.prog 120 #[.agg (agi (mixL was now 2))] W (Dirs W (mixL was now 2)) from refDirect_any (mixL was now 2) W (mixL_len _ _ _))
    have FA : fa = dirL (mixL was now 2) := hfa
    unfold Mixes at KM
    unfold Dirs at KD
    rw [← FA] at KD
    rw [← hfa]
    have KD := hid KD.out
    generalize errOf (mixB was now 2) = e1 at *
    generalize errOf (steadyB (mixL was now 2)) = e2 at *
    generalize mixL was now 2 = mx at *
    rename_i KDo
    clear KDo FA hfa hV h1 h2 h3 ha hb sa sb hs
    go_enter Tryz.func54, Tryz.ntmps54
    go_wp2_with (first
      | (rw [HV.out]; clear HV)
      | (refine wpList_loadI rfl 22 (.tmp 3) rfl _ 22 was 8 _ rfl A0.out Tryz.underlying22 rfl size8 HA.out ?_)
      | (refine wpList_loadI rfl 22 (.tmp 4) rfl _ 22 now 8 _ rfl N0.out Tryz.underlying22 rfl size8 HB.out ?_))
    with_reducible refine (KM.out V).mono ?_
    rintro e w1 ⟨rfl, hB⟩
    have R1 := hid (Blk.below' R0.out hB)
    have B1 := hid (B0.out.trans (hB.mono B0.out.size))
    clear hB A0 N0
    go_wp2_with (first
      | (refine wpList_storeI rfl 22 (.tmp 7) (.tmp 19) rfl _ 22 Z8 mx 8 rfl rfl (IB.new w1 22 Z8) size8 rfl ML.out ?_
         have BB := below_stored w1 (.cells (agi Z8) 22) (agi mx)
         obtain ⟨V2, hV⟩ : ∃ V2, V2 = (w1.alloc (.cells (agi Z8) 22)).setRow w1.heap.size (agi mx) := ⟨_, rfl⟩
         have R2 := hid (show IB V2 (w.heap.size + 1 + 1) 90 Z9 from by rw [hV]; exact Blk.below' R1.out BB)
         have B2 := hid (show Below w.heap.size w V2 from by rw [hV]; exact B1.out.trans (BB.mono B1.out.size))
         have M2 := hid (show IB V2 w1.heap.size 22 mx from by rw [hV]; exact IB.stored w1 22 Z8 mx)
         rw [z8_eq] at hV
         rw [← hV]
         clear hV BB)
      | (refine wpList_loadI rfl 22 (.tmp 7) rfl _ 22 mx 8 _ rfl M2.out Tryz.underlying22 rfl size8 ML.out ?_))
    with_reducible refine (KD.out V2).mono ?_
    rintro e w3 ⟨rfl, hB⟩
    have R3 := hid (Blk.below' R2.out hB)
    have B3 := hid (B2.out.trans (hB.mono B2.out.size))
    clear hB M2
    go_wp2_with (first
      | (refine wpList_storeI rfl 90 (.tmp 9) (.tmp 24) rfl _ 90 Z9 fa 9 rfl rfl (IB.new w3 90 Z9) size9 rfl FL.out ?_
         have BB := below_stored w3 (.cells (agi Z9) 90) (agi fa)
         obtain ⟨V4, hV⟩ : ∃ V4, V4 = (w3.alloc (.cells (agi Z9) 90)).setRow w3.heap.size (agi fa) := ⟨_, rfl⟩
         have R4 := hid (show IB V4 (w.heap.size + 1 + 1) 90 Z9 from by rw [hV]; exact Blk.below' R3.out BB)
         have B4 := hid (show Below w.heap.size w V4 from by rw [hV]; exact B3.out.trans (BB.mono B3.out.size))
         have D4 := hid (show IB V4 w3.heap.size 90 fa from by rw [hV]; exact IB.stored w3 90 Z9 fa)
         rw [z9_eq] at hV
         rw [← hV]
         clear hV BB)
      | (refine wpList_loadI rfl 90 (.tmp 9) rfl _ 90 fa 9 _ rfl D4.out Tryz.underlying90 rfl size9 FL.out ?_)
      | (refine wpList_storeI rfl 90 (.tmp 6) (.tmp 26) rfl _ 90 Z9 fa 9 rfl rfl R4.out size9 rfl FL.out ?_))
    refine bodyPost_ret (v := _) (hR _ _ _ 90 fa _ 9 rfl (IB.setRow R4.out fa) Tryz.underlying90 rfl size9 FL.out) rfl ?_
    exact ⟨rfl, below_setRow B4.out (by omega) _⟩
  · have FA : fa = dirL now := by rw [hfa]; exact frA_one sa sb hb
    have KD := hid (fun W => show Calls Tryz.prog 120 #[.agg (agi now)] W (Dirs W now) from refDirect_any now W hb)
    unfold Dirs at KD
    rw [← FA] at KD
    rw [← hfa]
    have KD := hid KD.out
    generalize errOf (steadyB now) = e2 at *
    rename_i KDo
    clear KDo FA hfa hV h1 h2 h3 ha hb sa sb hs
    go_enter Tryz.func54, Tryz.ntmps54
    go_wp2_with (first
      | (rw [HV.out]; clear HV)
      | (refine wpList_loadI rfl 22 (.tmp 4) rfl _ 22 now 8 _ rfl N0.out Tryz.underlying22 rfl size8 HB.out ?_))
    with_reducible refine (KD.out V).mono ?_
    rintro e w3 ⟨rfl, hB⟩
    have R3 := hid (Blk.below' R0.out hB)
    have B3 := hid (B0.out.trans (hB.mono B0.out.size))
    clear hB A0 N0
    go_wp2_with (first
      | (refine wpList_storeI rfl 90 (.tmp 11) (.tmp 30) rfl _ 90 Z9 fa 9 rfl rfl (IB.new w3 90 Z9) size9 rfl FL.out ?_
         have BB := below_stored w3 (.cells (agi Z9) 90) (agi fa)
         obtain ⟨V4, hV⟩ : ∃ V4, V4 = (w3.alloc (.cells (agi Z9) 90)).setRow w3.heap.size (agi fa) := ⟨_, rfl⟩
         have R4 := hid (show IB V4 (w.heap.size + 1 + 1) 90 Z9 from by rw [hV]; exact Blk.below' R3.out BB)
         have B4 := hid (show Below w.heap.size w V4 from by rw [hV]; exact B3.out.trans (BB.mono B3.out.size))
         have D4 := hid (show IB V4 w3.heap.size 90 fa from by rw [hV]; exact IB.stored w3 90 Z9 fa)
         rw [z9_eq] at hV
         rw [← hV]
         clear hV BB)
      | (refine wpList_loadI rfl 90 (.tmp 11) rfl _ 90 fa 9 _ rfl D4.out Tryz.underlying90 rfl size9 FL.out ?_)
      | (refine wpList_storeI rfl 90 (.tmp 6) (.tmp 32) rfl _ 90 Z9 fa 9 rfl rfl R4.out size9 rfl FL.out ?_))
    refine bodyPost_ret (v := _) (hR _ _ _ 90 fa _ 9 rfl (IB.setRow R4.out fa) Tryz.underlying90 rfl size9 FL.out) rfl ?_
    exact ⟨rfl, below_setRow B4.out (by omega) _⟩
end Go.Proofs.YthoiikkjjaldnaaGreatDoor

/- The reference's Play. -/
namespace Go.Proofs.YthoiikkjjaldnaaGreatDoor
set_option linter.unusedVariables false
set_option linter.unusedSimpArgs false
set_option maxRecDepth 100000
open Go.RowKit

theorem frP_make (q : Bool) {a : List Int} {m : Mm} {u : List Int} (g : goodM m = true) (h : UOk u) (ha : goodA a) :
    (if goodF a (frN q m u).p (frX q m u) then makeN a (frN q m u).p (frX q m u) 40 else []) = frY q a m u ∧ (if goodF a (frN q m u).p (frX q m u) then newL (frN q m u).p (makeN a (frN q m u).p (frX q m u) 40) else Z8) = (frP q a m u).p ∧
    ({ frN q m u with p := (frP q a m u).p } : Mm) = frP q a m u := by
  obtain ⟨_, h2, _⟩ := goodM_of g
  have hF : goodF a (frN q m u).p (frX q m u) = true := by rw [frN_p]; exact goodA_F ha h2 (frX_in q m u)
  rw [if_pos hF, if_pos hF, frN_p]
  unfold frY frP
  generalize newL m.p (makeN a m.p (frX q m u) 40) = z
  exact ⟨rfl, rfl, rfl⟩
theorem frP_rr (q : Bool) (a : List Int) (m : Mm) (u : List Int) : (frN q m u).r = m.r := frN_r q m u
/-- The boxes, and this frame's reflections'. -/
structure Fd (w wr : World) (m : Mm) (ps : List Int) (gN : Nat) (now : List Int) : Prop where
  F : Fb w wr m ps
  N : IB wr gN 22 now
  l1 : w.heap.size + 3 ≤ gN
section
variable {w wr w' : World} {m mm : Mm} {ps now : List Int} {gN : Nat}
theorem Fd.below (s : Fd w wr m ps gN now) (hb : Below wr.heap.size wr w') : Fd w w' m ps gN now := ⟨s.F.below hb, Blk.below' s.N hb, s.l1⟩
theorem Fd.glt (s : Fd w wr m ps gN now) : gN < wr.heap.size := Blk.lt s.N
theorem Fd.setA (s : Fd w wr m ps gN now) : Fd w (wr.setRow w.heap.size mm.ag) mm ps gN now := ⟨s.F.setA, Blk.rowFar s.N (by have := s.l1; omega), s.l1⟩
theorem Fd.setP (s : Fd w wr m ps gN now) (k : m.ok) (p : List Int) (hp : p.length = 8) : Fd w (wr.setCells w.heap.size 8 (ints p)) { m with p := p } ps gN now :=
  ⟨⟨s.F.A.set_p k p hp, blk_sc (by omega) _ _ _ s.F.P, blk_sc (by omega) _ _ _ s.F.R, below_sc (Nat.le_refl _) _ _ _ s.F.bel⟩, blk_sc (by have := s.l1; omega) _ _ _ s.N, s.l1⟩
theorem Fd.grown {A : Option Addr} {c : Nat} {xs : List Int} (s : Fd w wr m ps gN now) (hO : Own wr (gN + 1) A c xs) (hG : wr.grownBy w' (A.map (·.block))) : Fd w w' m ps gN now := by
  have h1 := s.l1
  have h3 := s.glt
  exact ⟨⟨Blk.grownA s.F.A hG (hO.ne_ (by omega)), Blk.grownA s.F.P hG (hO.ne_ (by omega)), Blk.grownA s.F.R hG (hO.ne_ (by omega)), below_grown s.F.bel (hO.more (base' := w.heap.size) (by omega)) hG (by omega)⟩, Blk.grownA s.N hG (hO.ne_ (by omega)), s.l1⟩
end
/-- The round's boxes and the samples so far. -/
structure FdO (w W : World) (m : Mm) (ps : List Int) (gN : Nat) (now : List Int) (A : Option Addr) (c : Nat) (zs : List Int) : Prop where
  D : Fd w W m ps gN now
  O : Own W (gN + 1) A c zs
/-- And the excitation. -/
structure FdX (w W : World) (m : Mm) (ps : List Int) (gN : Nat) (now : List Int) (A : Option Addr) (c : Nat) (zs : List Int) (A2 : Option Addr) (x : List Int) : Prop where
  D : Fd w W m ps gN now
  O : Own W (gN + 1) A c zs
  X : Rs W W.heap.size A2 x
theorem FdX.below {w W w' : World} {m : Mm} {ps now zs x : List Int} {gN c : Nat} {A A2 : Option Addr} (s : FdX w W m ps gN now A c zs A2 x) (hb : Below W.heap.size W w') : FdX w w' m ps gN now A c zs A2 x :=
  ⟨s.D.below hb, s.O.below hb, (s.X.below hb).more hb.size⟩

set_option maxHeartbeats 8000000 in
theorem refPlay_any (m : Mm) (k : m.ok) (g : goodM m = true) (ps : List Int) (w : World) (T1 : TabS w 5 rootsL) (T2 : TabS w 1 gainsL) (T3 : TabS w 0 widthL) (hp : pkTo ps 25 = true) (hl : ps.length = 25) :
    Calls Tryz.prog 27 #[.agg m.ag, .agg (agi ps)] w (PlayA w (frM m ps) (frO m ps)) := by
  have hR := results_mem2 (fn := Tryz.f27) (p := 4) (q := 5) rfl
  have S0 := Fb.start w m ps
  obtain ⟨V, hV⟩ : ∃ V, V = (((w.alloc (.cells m.ag 25)).alloc (.cells (agi ps) 38)).alloc (.cells Tryz.zeroCells25 25)) := ⟨_, rfl⟩
  rw [← hV] at S0
  have HV := hid hV.symm
  have S0 := hid S0
  obtain ⟨m0, hm0⟩ : ∃ m0, m0 = fr0 m ps := ⟨_, rfl⟩
  obtain ⟨q, hq⟩ : ∃ q, q = frQ ps := ⟨_, rfl⟩
  obtain ⟨rp, hrp⟩ : ∃ rp, rp = refL ps := ⟨_, rfl⟩
  obtain ⟨now, hnow⟩ : ∃ now, now = frNow ps := ⟨_, rfl⟩
  obtain ⟨was, hwas⟩ : ∃ was, was = m0.r := ⟨_, rfl⟩
  have K0 := hid (show m0.ok from by rw [hm0]; exact fr0_ok k ps)
  have G0 := hid (show goodM m0 = true from by rw [hm0]; exact fr0_good g ps)
  have SW := hid (show steadyB was = true from by rw [hwas, hm0]; exact fr0_steady g ps)
  have SN := hid (show steadyB now = true from by rw [hnow]; exact frNow_steady hp)
  have WL := hid (show was.length = 8 from by rw [hwas]; exact K0.out.r)
  have NL := hid (show now.length = 8 from by rw [hnow]; exact frNow_len ps)
  have FM := hid (fun (z : Mm) (hz : z = frK q was now ps m0 2) => show frM m ps = { z with r := now, er := 0, si := q } from by
    unfold frM frE
    rw [frK_set, hz, hwas, hm0, hq, hnow])
  have FO := hid (fun (Y : List Int) (hY : Y = frZ q was now ps m0 2) => show frO m ps = Y from by
    unfold frO
    rw [frZ_set, hY, hwas, hm0, hq, hnow])
  have KV := hid (fun W (h : Below w.heap.size w W) => show Calls Tryz.prog 52 #[.agg (ints rp).toArray] W (fun e w' => e = .returned (.tuple #[.agg (agi now), .int .i64 0]) ∧ Below W.heap.size W w') from by
    have h1 := refValues_any (refL ps) W (refL_len hl) (T3.below h)
    unfold AAns at h1
    rw [frNow_eq hp, frNow_err hp 8 (Nat.le_refl _), ← hnow, ← hrp] at h1
    exact h1)
  have KK := hid (fun n (hn : n ≤ 2) => frK_ok (q := q) (was := was) (now := now) K0.out hp hl n hn)
  have KG := hid (fun n (hn : n ≤ 2) => frK_good (q := q) (was := was) (now := now) G0.out hp hl n hn)
  have KU := hid (fun s (hs : s < 2) => subL_ok hp hl hs)
  have KA := hid (fun s (hs : s < 2) => frA_good SW.out SN.out hs)
  have HRP := hid (fun W gg (h : IB W gg 38 ps) => show W.rangeAt gg 1 (ints rp) from by rw [hrp]; exact h.mid 1 8 (by omega))
  have HL := hid hl
  have TT1 := hid T1
  have TT2 := hid T2
  obtain ⟨p0, hp0⟩ : ∃ p0, p0 = ps.getD 0 0 := ⟨_, rfl⟩
  have hk : p0 = 0 ∨ p0 = 1 ∨ p0 = 2 := by
    have h := pkTo_at hp (show 0 < 25 by omega)
    have e : pkT.getD 0 0 = 2 := rfl
    unfold pkOk at h
    rw [e] at h
    omega
  have c0 := S0.out.P.cell 0 (by rw [hl]; omega)
  rw [← hp0] at c0
  have P0 := hid hp0
  have KM := hid k
  have M0 := hid hm0
  have HW := hid hwas
  have HQ := hid hq
  have HI8 := hid (show (Tryz.prog.info? 22).map (·.size) = some (ints rp).length from by rw [ints_len, hrp, refL_len hl]; exact size8)
  have SZ := hid (show (Tryz.prog.info? 22).map (·.size) = some (agi now).size from by rw [agi_size, NL.out]; exact size8)
  clear hV hrp hm0 hq hnow hwas k g hp hl hp0 T1 T2 T3
  rcases hk with rfl | rfl | rfl
  · have e0 := hid (show m0 = m from by rw [M0.out]; unfold fr0; rw [← P0.out, if_neg (by decide)])
    have eq0 := hid (show q = false from by rw [HQ.out]; unfold frQ; rw [← P0.out]; decide)
    have e0 := e0.out
    subst e0
    have eq0 := eq0.out
    subst eq0
    clear M0 HQ
    go_enter Tryz.func27, Tryz.ntmps27
    go_wp2_with (first
      | (rw [HV.out]; clear HV)
      | (refine wpList_load_mid rfl 22 (.tmp 17) rfl _ _ rfl (ints rp) _ (HRP.out _ _ S0.out.P) Tryz.underlying22 rfl HI8.out ?_))
    with_reducible refine (KV.out V S0.out.bel).mono ?_
    rintro e w1 ⟨rfl, hB⟩
    have S1 := hid (S0.out.below hB)
    clear hB S0 KV c0
    have SX1 := hid S1.out.lt
    go_wp2_with (first
      | (refine wpList_storeI rfl 22 (.tmp 6) (.tmp 20) rfl _ 22 Z8 now 8 rfl rfl (IB.new w1 22 Z8) size8 rfl NL.out ?_
         have BB := below_stored w1 (.cells (agi Z8) 22) (agi now)
         obtain ⟨V2, hV⟩ : ∃ V2, V2 = (w1.alloc (.cells (agi Z8) 22)).setRow w1.heap.size (agi now) := ⟨_, rfl⟩
         have S2 := hid (show Fd w V2 m0 ps w1.heap.size now from by rw [hV]; exact ⟨S1.out.below BB, IB.stored w1 22 Z8 now, SX1.out⟩)
         rw [z8_eq] at hV
         rw [← hV]
         clear hV BB))
    obtain ⟨gN, hgN⟩ : ∃ gN, gN = w1.heap.size := ⟨_, rfl⟩
    rw [← hgN] at S2
    rw [← hgN]
    clear hgN S1 SX1
    go_loopw [8, 9] (fun ov iv wr => ∃ (k : Nat) (A : Option Addr) (c n : Nat), k ≤ 2 ∧ iv = .int .i64 k ∧ ov = .slice A n c ∧ Hid (n = 40 * k) ∧ Hid (Own wr (gN + 1) A c (frZ false was now ps m0 k)) ∧ Hid (Fd w wr (frK false was now ps m0 k) ps gN now)) (fun _ iv _ => 2 - (intOf iv).toNat)
    case atStart => exact ⟨0, none, 0, 0, by omega, rfl, rfl, hid rfl, hid Own.nil, S2⟩
    case round =>
      clear S2
      obtain ⟨k, A, c, n, hk, rfl, rfl, HN, HO, HC⟩ := hrel
      by_cases hlt : k < 2
      · have KO := hid (KK.out k (by omega))
        have GO := hid (KG.out k (by omega))
        have Kn := hid (KK.out (k + 1) (by omega))
        have NM := hid (show frK false was now ps m0 (k + 1) = frP false (frA was now k) (frK false was now ps m0 k) (subL ps k) from rfl)
        have NZ := hid (show frZ false was now ps m0 (k + 1) = frZ false was now ps m0 k ++ frY false (frA was now k) (frK false was now ps m0 k) (subL ps k) from rfl)
        have YL := hid (frY_len false (frA was now k) (frK false was now ps m0 k) (subL ps k))
        have LZ := hid (show (frZ false was now ps m0 k).length = n from by rw [frZ_len, HN.out])
        have UU := KU.out k hlt
        have GA := KA.out k hlt
        have OKM := hid (frN_ok false KO.out UU)
        have XL := hid (frX_len false (frK false was now ps m0 k) UU)
        have KPd := hid (fun W => show Calls Tryz.prog 54 #[.agg (ints (frN false (frK false was now ps m0 k) (subL ps k)).r).toArray, .agg (ints now).toArray, .int .i64 (k : Nat)] W (fun e w' => e = .returned (.agg (agi (frA was now k))) ∧ Below W.heap.size W w') from by
          rw [show (frN false (frK false was now ps m0 k) (subL ps k)).r = was from by rw [frN_r, frK_r]; exact HW.out.symm]
          exact predictor_any was now k W WL.out NL.out hlt SW.out SN.out)
        have h3 := frP_make false GO.out UU GA
        have KMk := hid (fun W A2 c2 (h : Rs W W.heap.size A2 (frX false (frK false was now ps m0 k) (subL ps k))) (hc : 40 ≤ c2) => show Calls Tryz.prog 57 #[.agg (agi (frA was now k)), .agg (ints (frN false (frK false was now ps m0 k) (subL ps k)).p).toArray, .slice A2 40 c2] W (fun e w' => ∃ A3 c3 er, e = .returned (.tuple #[.slice A3 40 c3, .agg (agi (frP false (frA was now k) (frK false was now ps m0 k) (subL ps k)).p), .int .i64 er]) ∧ Own w' W.heap.size A3 c3 (frY false (frA was now k) (frK false was now ps m0 k) (subL ps k)) ∧ Below W.heap.size W w') from by
          have h1 := refMake_any (frA was now k) (frN false (frK false was now ps m0 k) (subL ps k)).p _ A2 c2 40 W (frA_len _ _ _) OKM.out.p h XL.out (by omega) hc
          rw [h3.1, h3.2.1] at h1
          refine h1.mono ?_
          rintro e w' ⟨A3, c3, h1, h2, h3⟩
          rw [frY_len] at h1
          exact ⟨A3, c3, _, h1, h2, h3⟩)
        have PM := hid h3.2.2
        clear h3
        have KH := hid (fun W (h : Below w.heap.size w W) => show Calls Tryz.prog 56 #[.agg (frK false was now ps m0 k).cs.toArray, .agg (ints (subL ps k)).toArray] W (PlayA W (frN false (frK false was now ps m0 k) (subL ps k)) (frX false (frK false was now ps m0 k) (subL ps k))) from
          spoken_any (frK false was now ps m0 k) KO.out (subL ps k) W (TT1.out.below h) (TT2.out.below h) UU (w64_of16 (goodM_of GO.out).2.2.1))
        have HSU := hid (fun W gg (h : IB W gg 38 ps) => show W.rangeAt gg (9 + k * 8) (ints (subL ps k)) from by
          have h2 := h.mid (9 + 8 * k) 8 (by rw [HL.out]; omega)
          rw [show 9 + 8 * k = 9 + k * 8 by omega] at h2
          unfold subL
          rw [show 9 + 8 * k = 9 + k * 8 by omega]
          exact h2)
        have HI35 := hid (show (Tryz.prog.info? 35).map (·.size) = some (ints (subL ps k)).length from by rw [ints_len, UU.l]; exact sizeSub)
        rw [NM.out] at Kn
        generalize frP false (frA was now k) (frK false was now ps m0 k) (subL ps k) = mn at *
        generalize frY false (frA was now k) (frK false was now ps m0 k) (subL ps k) = y at *
        generalize frN false (frK false was now ps m0 k) (subL ps k) = mm at *
        generalize frX false (frK false was now ps m0 k) (subL ps k) = x at *
        generalize frA was now k = a at *
        generalize frK false was now ps m0 k = mk at *
        generalize frZ false was now ps m0 k = zs at *
        generalize subL ps k = su at *
        have cp := HC.out.F.P.cell 0 (by rw [HL.out]; omega)
        rw [← P0.out] at cp
        clear KK KG KU KA UU GA GO
        go_wp2
        refine wp_region_ord [] [0, 1, 2, 3, 4] 5 [6, 7, 8, 9, 10] (fun W => FdO w W mk ps gN now A c zs) (by kernel_rfl) (by kernel_rfl) rfl ⟨HC.out.below ((Below.refl _ _).drew), HO.out.drew⟩ (fun _ _ d _ _ h => by cases d <;> exact h) ?_
        simp only [opsAt, List.getElem?_toArray, List.getElem?_cons_zero, List.getElem?_cons_succ]
        refine wpYields_nil ?_
        refine wpQuiet_step (fun K hK => ?_)
        refine quiet_mid (by rfl) 25 (.tmp 2) rfl w.heap.size 0 rfl mk.cs _ (fun W hW => MB.whole hW.D.F.A) Tryz.underlying25 rfl (by rw [sizeM, mk.len KO.out]) ?_
        refine hK _ ?_; clear hK K
        iterate 3
          refine wpQuiet_step (fun K hK => ?_)
          go_simp
          apply Exists.intro
          refine ⟨fun W hW => rfl, hK _ ?_⟩
          clear hK K
        refine wpQuiet_step (fun K hK => ?_)
        refine quiet_mid (by rfl) 35 (.tmp 39) rfl (w.heap.size + 1) (9 + k * 8) rfl (ints su) _ (fun W hW => HSU.out _ _ hW.D.F.P) Tryz.underlying35 rfl HI35.out ?_
        refine hK _ ?_; clear hK K
        refine wpQuiet_nil ?_
        intro W7 hW7
        have CW := hid hW7.D
        have OW := hid hW7.O
        clear hW7
        have SXW := hid (show gN < W7.heap.size from CW.out.glt)
        go_wp2_with (first
          | (go_at_call 56; (with_reducible refine (KH.out W7 CW.out.F.bel).mono ?_); rintro e w8 ⟨A2, c2, rfl, hO, hB⟩; have C8 := hid (CW.out.below hB); have O8 := hid (OW.out.below hB); have X8 := hid hO; clear hO hB; have C9 := hid (C8.out.setA (mm := mm)); have O9 := hid (O8.out.setRow (g := w.heap.size) (by have := C8.out.l1; omega) mm.ag); have CAP := hid X8.out.cap.1; have X9 := hid (X8.out.setRow (g := w.heap.size) (by have := C8.out.l1; have := SXW.out; omega) mm.ag).reads; obtain ⟨V9, hV9⟩ : ∃ V9, V9 = w8.setRow w.heap.size mm.ag := ⟨_, rfl⟩; rw [← hV9] at C9 O9 X9; have HV9 := hid hV9; clear hV9; rw [XL.out] at CAP; rw [XL.out])
          | (refine wpList_storeM rfl (.tmp 2) (.tmp 42) rfl _ mk mm rfl rfl C8.out.F.A KO.out OKM.out ?_; rw [← HV9.out]; clear HV9))
        clear cp
        refine wp_region_ord [] [0, 1, 2, 3, 4, 5, 6, 7] 8 [9, 10, 11, 12, 13, 14, 15] (fun W => FdX w W mm ps gN now A c zs A2 x) (by kernel_rfl) (by kernel_rfl) rfl ⟨C9.out.below ((Below.refl _ _).drew), O9.out.drew, X9.out.below ((Below.refl _ _).drew)⟩ (fun _ _ d _ _ h => by cases d <;> exact h) ?_
        simp only [opsAt, List.getElem?_toArray, List.getElem?_cons_zero, List.getElem?_cons_succ]
        refine wpYields_nil ?_
        refine wpQuiet_step (fun K hK => ?_)
        go_simp
        apply Exists.intro
        refine ⟨fun W hW => rfl, hK _ ?_⟩
        clear hK K
        refine wpQuiet_step (fun K hK => ?_)
        refine quiet_mid (by rfl) 22 (.tmp 45) rfl w.heap.size 0 rfl (ints mm.r) _ (fun W hW => hW.D.F.A.R OKM.out) Tryz.underlying22 rfl (by rw [size8, ints_len, OKM.out.r]) ?_
        refine hK _ ?_; clear hK K
        refine wpQuiet_step (fun K hK => ?_)
        refine quiet_mid (by rfl) 22 (.tmp 6) rfl gN 0 rfl (ints now) _ (fun W hW => range_of hW.D.N [] (ints now) [] (by simp) rfl) Tryz.underlying22 rfl (by rw [size8, ints_len, NL.out]) ?_
        refine hK _ ?_; clear hK K
        refine wpQuiet_step (fun K hK => ?_)
        go_simp
        apply Exists.intro
        refine ⟨fun W hW => rfl, hK _ ?_⟩
        clear hK K
        refine wpQuiet_step (fun K hK => ?_)
        go_simp
        apply Exists.intro
        refine ⟨fun W hW => ?_, hK _ ?_⟩
        · with_reducible exact (KPd.out W).mono fun e w' h => ⟨h.1, hW.below h.2⟩
        clear hK K
        refine wpQuiet_step (fun K hK => ?_)
        go_simp
        apply Exists.intro
        refine ⟨fun W hW => rfl, hK _ ?_⟩
        clear hK K
        refine wpQuiet_step (fun K hK => ?_)
        refine quiet_mid (by rfl) 22 (.tmp 50) rfl w.heap.size 8 rfl (ints mm.p) _ (fun W hW => hW.D.F.A.P OKM.out) Tryz.underlying22 rfl (by rw [size8, ints_len, OKM.out.p]) ?_
        refine hK _ ?_; clear hK K
        refine wpQuiet_step (fun K hK => ?_)
        go_simp
        apply Exists.intro
        refine ⟨fun W hW => rfl, hK _ ?_⟩
        clear hK K
        refine wpQuiet_nil ?_
        intro WA hWA
        have CA := hid hWA.D
        have OA := hid hWA.O
        have XA := hid hWA.X
        clear hWA
        have SXA := hid (show gN < WA.heap.size from CA.out.glt)
        go_wp2_with fail
        with_reducible refine (KMk.out WA A2 c2 XA.out CAP.out).mono ?_
        rintro e w11 ⟨A3, c3, er, rfl, hO, hB⟩
        have C11 := hid (CA.out.below hB)
        have O11 := hid (OA.out.below hB)
        have X11 := hid hO
        clear hO hB
        have C12 := hid (show Fd w (w11.setCells w.heap.size 8 (ints mn.p)) mn ps gN now from PM.out ▸ C11.out.setP OKM.out mn.p Kn.out.p)
        have O12 := hid (Own.setCs (g := w.heap.size) (by have := C11.out.l1; omega) (ints mn.p) 8 _ O11.out)
        have X12 := hid (Own.setCs (g := w.heap.size) (by have := C11.out.l1; have := SXA.out; omega) (ints mn.p) 8 _ X11.out).reads
        have SZP := hid (show (Tryz.prog.info? 22).map (·.size) = some (agi mn.p).size from by rw [agi_size, Kn.out.p]; exact size8)
        have THP := hid (show w11.there w.heap.size 8 (agi mn.p).size from by rw [agi_size, Kn.out.p]; exact C11.out.F.A.thereP OKM.out)
        obtain ⟨V12, hV12⟩ : ∃ V12, V12 = w11.setCells w.heap.size 8 (ints mn.p) := ⟨_, rfl⟩
        rw [← hV12] at C12 O12 X12
        have HV12 := hid hV12
        clear hV12
        go_wp2_with (first
          | (refine wpList_store_mid rfl 22 (.tmp 57) (.tmp 55) rfl w.heap.size 8 (agi mn.p) rfl rfl THP.out SZP.out (agi_one _) ?_; rw [show (agi mn.p).toList = ints mn.p from rfl, ← HV12.out]; clear HV12)
          | (at_builtin; refine wpList_catN rfl (.tmp 58) (.tmp 59) rfl (gN + 1) A c n zs rfl LZ.out O12.out V12.heap.size A3 c3 40 y rfl YL.out X12.out (by have := HN.out; omega) (by have := C12.out.glt; omega) ?_; intro A13 c13 w13 hO hG hA; have C13 := hid (C12.out.grown O12.out hG); have O13 := hid hO; clear hO hG hA))
        go_roundw
        case rel => exact ⟨k + 1, A13, c13, n + 40, by omega, by go_num, rfl, hid (by have := HN.out; omega), hid (by rw [NZ.out]; exact O13.out), hid (by rw [NM.out]; exact C13.out)⟩
        case measure => simp [intOf] <;> omega
      · obtain rfl : k = 2 := by omega
        obtain rfl : n = 80 := HN.out
        obtain ⟨mk, hmk⟩ : ∃ mk, mk = frK false was now ps m0 2 := ⟨_, rfl⟩
        have OKS := hid (show mk.ok from by rw [hmk]; exact KK.out 2 (Nat.le_refl _))
        have FZ := hid (FM.out mk hmk)
        have LO := hid (frO_len m0 ps)
        rw [← hmk] at HC
        rw [← FO.out _ rfl] at HO
        clear hmk FO FM KK KG KU KA
        generalize frO m0 ps = yf at *
        generalize frM m0 ps = mf at *
        have cp := hid (fun W (h : IB W (w.heap.size + 1) 38 ps) => show W.cell? ⟨w.heap.size + 1, 0, none⟩ = some (.int .i64 0) from by
          have h2 := h.cell 0 (by rw [HL.out]; omega)
          rw [← P0.out] at h2
          exact h2)
        go_wp2
        have GL := hid (show w.heap.size + 3 < gN + 1 from by have := HC.out.l1; omega)
        have HS0 : wr.drew.rangeAt gN 0 (ints now) ∧ wr.drew.cell? ⟨w.heap.size + 1, 0, none⟩ = some (.int .i64 0) := ⟨range_of (Blk.drew HC.out.N) [] (ints now) [] (by simp) rfl, cp.out wr.drew (Blk.drew HC.out.F.P)⟩
        refine wp_region_held (S := (fun W => W.rangeAt gN 0 (ints now) ∧ W.cell? ⟨w.heap.size + 1, 0, none⟩ = some (.int .i64 0))) (by kernel_rfl) ?_
        change wpAnyH _ _ _ _ _ _ _ _ wr.drew
        refine wpAnyH_take (i := 1) (v := .pointer (some ⟨w.heap.size + 1, 0, none⟩)) rfl (by kernel_rfl) (by kernel_rfl) (by kernel_rfl) (fun _ _ _ h => h) (.inl ⟨by rfl, fun W hW => by go_simp⟩) HS0 ?_
        refine wpAnyH_take (i := 2) (v := .int .i64 0) rfl (by kernel_rfl) (by kernel_rfl) (by kernel_rfl) (fun _ _ _ h => h) (.inl ⟨by rfl, fun W hW => by have hc := hW.2; go_simp⟩) HS0 ?_
        refine wpAnyH_take (i := 3) (v := .bool false) rfl (by kernel_rfl) (by kernel_rfl) (by kernel_rfl) (fun _ _ _ h => h) (.inl ⟨by rfl, fun W hW => by go_simp⟩) HS0 ?_
        refine wpAnyH_take (i := 0) (v := .agg (ints now).toArray) rfl (by kernel_rfl) (by kernel_rfl) (by kernel_rfl) (fun _ _ _ h => h) (yieldsIf_load_mid (by rfl) 22 (.tmp 6) rfl gN 0 rfl (ints now) _ (fun W hW => hW.1) Tryz.underlying22 rfl (by rw [size8, ints_len, NL.out])) HS0 ?_
        refine wpAnyH_take (i := 4) (v := .pointer (some ⟨w.heap.size, 0, none⟩)) rfl (by kernel_rfl) (by kernel_rfl) (by kernel_rfl) (fun _ _ _ h => h) (.inl ⟨by rfl, fun W hW => by go_simp⟩) HS0 ?_
        have S8 := hid (show Fb w (wr.drew.setCells w.heap.size 0 (ints now)) { mk with r := now } ps from (HC.out.F.below ((Below.refl _ _).drew)).setRf OKS.out now NL.out)
        have N8 := hid (show IB (wr.drew.setCells w.heap.size 0 (ints now)) gN 22 now from blk_sc (by have := HC.out.l1; omega) _ _ _ (Blk.drew HC.out.N))
        have TH := hid (show wr.drew.there w.heap.size 0 (ints now).toArray.size from by
          have h2 := (HC.out.F.below ((Below.refl _ _).drew)).A.thereR OKS.out
          have e : (ints now).toArray.size = 8 := by rw [List.size_toArray, ints_len, NL.out]
          rw [e]
          exact h2)
        have SZN := hid (show (Tryz.prog.info? 22).map (·.size) = some (ints now).toArray.size from by rw [List.size_toArray, ints_len, NL.out]; exact size8)
        have O8 := hid (Own.setCs (g := w.heap.size) (by have := GL.out; omega) (ints now) 0 _ HO.out.drew)
        obtain ⟨V8, hV8⟩ : ∃ V8, V8 = wr.drew.setCells w.heap.size 0 (ints now) := ⟨_, rfl⟩
        rw [← hV8] at S8 O8 N8
        have K8 := hid (show ({ mk with r := now } : Mm).ok from ⟨NL.out, OKS.out.p, OKS.out.e⟩)
        have HS8 : V8.rangeAt gN 0 (ints now) ∧ V8.cell? ⟨w.heap.size + 1, 0, none⟩ = some (.int .i64 0) := ⟨range_of N8.out [] (ints now) [] (by simp) rfl, cp.out V8 S8.out.P⟩
        have d8 := S8.out.A.cer K8.out
        have f8 := MB.frozen S8.out.A 99
        have S9 := hid (S8.out.setEr K8.out 0)
        have N9 := hid (Blk.far N8.out (p := ⟨w.heap.size, 99, none⟩) (show gN ≠ w.heap.size by have := GL.out; have := HC.out.l1; omega) (.int .i64 0))
        have O9 := hid (Own.setC (g := w.heap.size) O8.out (by have := GL.out; omega) 99 (.int .i64 0))
        have K9 := hid (show ({ mk with r := now, er := 0 } : Mm).ok from ⟨NL.out, OKS.out.p, OKS.out.e⟩)
        refine wpAnyH_ready (rs := [5]) (by kernel_rfl) (by simp) (AllReadyH.cons rfl (fun K hK => ?_) AllReadyH.nil)
        rw [if_pos (by rfl)]
        simp only [Act.put, List.setIfInBounds_toArray, List.set_cons_zero, List.set_cons_succ, List.getElem_toArray, List.getElem_cons_succ, List.getElem_cons_zero]
        refine wp_store_mid 22 (.tmp 65) (.tmp 61) rfl w.heap.size 0 (ints now).toArray rfl rfl TH.out SZN.out (agi_one _) ?_
        rw [show (ints now).toArray.toList = ints now from rfl, ← hV8]
        refine hK.out _ _ HS8 (fun _ => ?_)
        clear hK K hV8
        refine wpAnyH_take (i := 6) (v := .pointer (some ⟨w.heap.size, 99, none⟩)) rfl (by kernel_rfl) (by kernel_rfl) (by kernel_rfl) (fun _ _ _ h => h) (.inl ⟨by rfl, fun W hW => by go_simp⟩) HS8 ?_
        refine wpAnyH_ready (rs := [7]) (by kernel_rfl) (by simp) (AllReadyH.cons rfl (fun K hK => ?_) AllReadyH.nil)
        go_simp
        obtain ⟨V9, hV9⟩ : ∃ V9, V9 = V8.setCell ⟨w.heap.size, 99, none⟩ (.int .i64 0) := ⟨_, rfl⟩
        rw [← hV9] at S9 O9 N9 ⊢
        have HS9 : V9.rangeAt gN 0 (ints now) ∧ V9.cell? ⟨w.heap.size + 1, 0, none⟩ = some (.int .i64 0) := ⟨range_of N9.out [] (ints now) [] (by simp) rfl, cp.out V9 S9.out.P⟩
        have d9 := S9.out.A.csi K9.out
        have f9 := MB.frozen S9.out.A 101
        have S10 := hid (show Fb w (V9.setCell ⟨w.heap.size, 101, none⟩ (.bool false)) mf ps from by rw [FZ.out]; exact S9.out.setSi K9.out false)
        have N10 := hid (Blk.far N9.out (p := ⟨w.heap.size, 101, none⟩) (show gN ≠ w.heap.size by have := HC.out.l1; omega) (.bool false))
        have O10 := hid (Own.setC (g := w.heap.size) O9.out (by have := GL.out; omega) 101 (.bool false))
        refine hK.out _ _ HS9 (fun _ => ?_)
        clear hK K hV9 d8 f8
        refine wpAnyH_take (i := 8) (v := .pointer (some ⟨w.heap.size, 101, none⟩)) rfl (by kernel_rfl) (by kernel_rfl) (by kernel_rfl) (fun _ _ _ h => h) (.inl ⟨by rfl, fun W hW => by go_simp⟩) HS9 ?_
        refine wpAnyH_ready (rs := [9]) (by kernel_rfl) (by simp) (AllReadyH.cons rfl (fun K hK => ?_) AllReadyH.nil)
        go_simp
        obtain ⟨V10, hV10⟩ : ∃ V10, V10 = V9.setCell ⟨w.heap.size, 101, none⟩ (.bool false) := ⟨_, rfl⟩
        rw [← hV10] at S10 O10 N10 ⊢
        have HS10 : V10.rangeAt gN 0 (ints now) ∧ V10.cell? ⟨w.heap.size + 1, 0, none⟩ = some (.int .i64 0) := ⟨range_of N10.out [] (ints now) [] (by simp) rfl, cp.out V10 S10.out.P⟩
        refine hK.out _ _ HS10 (fun _ => ?_)
        clear hK K hV10 d9 f9 HS8 HS9 HS10 HS0
        refine wpAnyH_done (by kernel_rfl) ?_ _
        have OKF := hid (show mf.ok from by rw [FZ.out]; exact ⟨NL.out, OKS.out.p, OKS.out.e⟩)
        try simp only [Exit.then]
        go_wp2_with (first
          | (refine wpList_loadM rfl (.tmp 2) rfl _ mf rfl S10.out.A OKF.out ?_)
          | (refine wpList_storeM rfl (.tmp 4) (.tmp 68) rfl _ zeroM mf rfl rfl S10.out.R zeroM_ok OKF.out ?_))
        refine bodyPost_ret (v := _) (hR _ _ _ mf rfl (MB.setRow S10.out.R mf) OKF.out) rfl ?_
        exact ⟨A, c, by rw [LO.out]; rfl, (O10.out.setRow (g := w.heap.size + 2) (by have := GL.out; omega) mf.ag).more (base' := w.heap.size) (by have := GL.out; omega), below_setRow S10.out.bel (g := w.heap.size + 2) (by omega) mf.ag⟩
  · have e0 := hid (show m0 = freshM from by rw [M0.out]; unfold fr0; rw [← P0.out, if_pos rfl])
    have eq0 := hid (show q = false from by rw [HQ.out]; unfold frQ; rw [← P0.out]; decide)
    have eq0 := eq0.out
    subst eq0
    have KFr := hid (fun W => show Calls Tryz.prog 9 #[] W (fun e w' => e = .returned (.agg m0.ag) ∧ Below W.heap.size W w') from by rw [e0.out]; exact refFresh_any W)
    clear M0 HQ e0
    go_enter Tryz.func27, Tryz.ntmps27
    go_wp2_with (first
      | (rw [HV.out]; clear HV)
      | (go_at_call 9; (with_reducible refine (KFr.out V).mono ?_); rintro e w1 ⟨rfl, hB⟩; have S1 := hid (S0.out.below hB); clear hB; have S2 := hid (S1.out.setA (mm := m0)); obtain ⟨V2, hV2⟩ : ∃ V2, V2 = w1.setRow w.heap.size m0.ag := ⟨_, rfl⟩; rw [← hV2] at S2; have HV2 := hid hV2; clear hV2)
      | (refine wpList_storeM rfl (.tmp 2) (.tmp 15) rfl _ m m0 rfl rfl S1.out.A KM.out K0.out ?_; rw [← HV2.out]; clear HV2)
      | (refine wpList_load_mid rfl 22 (.tmp 17) rfl _ _ rfl (ints rp) _ (HRP.out _ _ S2.out.P) Tryz.underlying22 rfl HI8.out ?_))
    with_reducible refine (KV.out V2 S2.out.bel).mono ?_
    rintro e w1 ⟨rfl, hB⟩
    have S1 := hid (S2.out.below hB)
    clear hB S0 S2 KV c0 KFr
    have SX1 := hid S1.out.lt
    go_wp2_with (first
      | (refine wpList_storeI rfl 22 (.tmp 6) (.tmp 20) rfl _ 22 Z8 now 8 rfl rfl (IB.new w1 22 Z8) size8 rfl NL.out ?_
         have BB := below_stored w1 (.cells (agi Z8) 22) (agi now)
         obtain ⟨V2, hV⟩ : ∃ V2, V2 = (w1.alloc (.cells (agi Z8) 22)).setRow w1.heap.size (agi now) := ⟨_, rfl⟩
         have S2 := hid (show Fd w V2 m0 ps w1.heap.size now from by rw [hV]; exact ⟨S1.out.below BB, IB.stored w1 22 Z8 now, SX1.out⟩)
         rw [z8_eq] at hV
         rw [← hV]
         clear hV BB))
    obtain ⟨gN, hgN⟩ : ∃ gN, gN = w1.heap.size := ⟨_, rfl⟩
    rw [← hgN] at S2
    rw [← hgN]
    clear hgN S1 SX1
    go_loopw [8, 9] (fun ov iv wr => ∃ (k : Nat) (A : Option Addr) (c n : Nat), k ≤ 2 ∧ iv = .int .i64 k ∧ ov = .slice A n c ∧ Hid (n = 40 * k) ∧ Hid (Own wr (gN + 1) A c (frZ false was now ps m0 k)) ∧ Hid (Fd w wr (frK false was now ps m0 k) ps gN now)) (fun _ iv _ => 2 - (intOf iv).toNat)
    case atStart => exact ⟨0, none, 0, 0, by omega, rfl, rfl, hid rfl, hid Own.nil, S2⟩
    case round =>
      clear S2
      obtain ⟨k, A, c, n, hk, rfl, rfl, HN, HO, HC⟩ := hrel
      by_cases hlt : k < 2
      · have KO := hid (KK.out k (by omega))
        have GO := hid (KG.out k (by omega))
        have Kn := hid (KK.out (k + 1) (by omega))
        have NM := hid (show frK false was now ps m0 (k + 1) = frP false (frA was now k) (frK false was now ps m0 k) (subL ps k) from rfl)
        have NZ := hid (show frZ false was now ps m0 (k + 1) = frZ false was now ps m0 k ++ frY false (frA was now k) (frK false was now ps m0 k) (subL ps k) from rfl)
        have YL := hid (frY_len false (frA was now k) (frK false was now ps m0 k) (subL ps k))
        have LZ := hid (show (frZ false was now ps m0 k).length = n from by rw [frZ_len, HN.out])
        have UU := KU.out k hlt
        have GA := KA.out k hlt
        have OKM := hid (frN_ok false KO.out UU)
        have XL := hid (frX_len false (frK false was now ps m0 k) UU)
        have KPd := hid (fun W => show Calls Tryz.prog 54 #[.agg (ints (frN false (frK false was now ps m0 k) (subL ps k)).r).toArray, .agg (ints now).toArray, .int .i64 (k : Nat)] W (fun e w' => e = .returned (.agg (agi (frA was now k))) ∧ Below W.heap.size W w') from by
          rw [show (frN false (frK false was now ps m0 k) (subL ps k)).r = was from by rw [frN_r, frK_r]; exact HW.out.symm]
          exact predictor_any was now k W WL.out NL.out hlt SW.out SN.out)
        have h3 := frP_make false GO.out UU GA
        have KMk := hid (fun W A2 c2 (h : Rs W W.heap.size A2 (frX false (frK false was now ps m0 k) (subL ps k))) (hc : 40 ≤ c2) => show Calls Tryz.prog 57 #[.agg (agi (frA was now k)), .agg (ints (frN false (frK false was now ps m0 k) (subL ps k)).p).toArray, .slice A2 40 c2] W (fun e w' => ∃ A3 c3 er, e = .returned (.tuple #[.slice A3 40 c3, .agg (agi (frP false (frA was now k) (frK false was now ps m0 k) (subL ps k)).p), .int .i64 er]) ∧ Own w' W.heap.size A3 c3 (frY false (frA was now k) (frK false was now ps m0 k) (subL ps k)) ∧ Below W.heap.size W w') from by
          have h1 := refMake_any (frA was now k) (frN false (frK false was now ps m0 k) (subL ps k)).p _ A2 c2 40 W (frA_len _ _ _) OKM.out.p h XL.out (by omega) hc
          rw [h3.1, h3.2.1] at h1
          refine h1.mono ?_
          rintro e w' ⟨A3, c3, h1, h2, h3⟩
          rw [frY_len] at h1
          exact ⟨A3, c3, _, h1, h2, h3⟩)
        have PM := hid h3.2.2
        clear h3
        have KH := hid (fun W (h : Below w.heap.size w W) => show Calls Tryz.prog 56 #[.agg (frK false was now ps m0 k).cs.toArray, .agg (ints (subL ps k)).toArray] W (PlayA W (frN false (frK false was now ps m0 k) (subL ps k)) (frX false (frK false was now ps m0 k) (subL ps k))) from
          spoken_any (frK false was now ps m0 k) KO.out (subL ps k) W (TT1.out.below h) (TT2.out.below h) UU (w64_of16 (goodM_of GO.out).2.2.1))
        have HSU := hid (fun W gg (h : IB W gg 38 ps) => show W.rangeAt gg (9 + k * 8) (ints (subL ps k)) from by
          have h2 := h.mid (9 + 8 * k) 8 (by rw [HL.out]; omega)
          rw [show 9 + 8 * k = 9 + k * 8 by omega] at h2
          unfold subL
          rw [show 9 + 8 * k = 9 + k * 8 by omega]
          exact h2)
        have HI35 := hid (show (Tryz.prog.info? 35).map (·.size) = some (ints (subL ps k)).length from by rw [ints_len, UU.l]; exact sizeSub)
        rw [NM.out] at Kn
        generalize frP false (frA was now k) (frK false was now ps m0 k) (subL ps k) = mn at *
        generalize frY false (frA was now k) (frK false was now ps m0 k) (subL ps k) = y at *
        generalize frN false (frK false was now ps m0 k) (subL ps k) = mm at *
        generalize frX false (frK false was now ps m0 k) (subL ps k) = x at *
        generalize frA was now k = a at *
        generalize frK false was now ps m0 k = mk at *
        generalize frZ false was now ps m0 k = zs at *
        generalize subL ps k = su at *
        have cp := HC.out.F.P.cell 0 (by rw [HL.out]; omega)
        rw [← P0.out] at cp
        clear KK KG KU KA UU GA GO
        go_wp2
        refine wp_region_ord [] [0, 1, 2, 3, 4] 5 [6, 7, 8, 9, 10] (fun W => FdO w W mk ps gN now A c zs) (by kernel_rfl) (by kernel_rfl) rfl ⟨HC.out.below ((Below.refl _ _).drew), HO.out.drew⟩ (fun _ _ d _ _ h => by cases d <;> exact h) ?_
        simp only [opsAt, List.getElem?_toArray, List.getElem?_cons_zero, List.getElem?_cons_succ]
        refine wpYields_nil ?_
        refine wpQuiet_step (fun K hK => ?_)
        refine quiet_mid (by rfl) 25 (.tmp 2) rfl w.heap.size 0 rfl mk.cs _ (fun W hW => MB.whole hW.D.F.A) Tryz.underlying25 rfl (by rw [sizeM, mk.len KO.out]) ?_
        refine hK _ ?_; clear hK K
        iterate 3
          refine wpQuiet_step (fun K hK => ?_)
          go_simp
          apply Exists.intro
          refine ⟨fun W hW => rfl, hK _ ?_⟩
          clear hK K
        refine wpQuiet_step (fun K hK => ?_)
        refine quiet_mid (by rfl) 35 (.tmp 39) rfl (w.heap.size + 1) (9 + k * 8) rfl (ints su) _ (fun W hW => HSU.out _ _ hW.D.F.P) Tryz.underlying35 rfl HI35.out ?_
        refine hK _ ?_; clear hK K
        refine wpQuiet_nil ?_
        intro W7 hW7
        have CW := hid hW7.D
        have OW := hid hW7.O
        clear hW7
        have SXW := hid (show gN < W7.heap.size from CW.out.glt)
        go_wp2_with (first
          | (go_at_call 56; (with_reducible refine (KH.out W7 CW.out.F.bel).mono ?_); rintro e w8 ⟨A2, c2, rfl, hO, hB⟩; have C8 := hid (CW.out.below hB); have O8 := hid (OW.out.below hB); have X8 := hid hO; clear hO hB; have C9 := hid (C8.out.setA (mm := mm)); have O9 := hid (O8.out.setRow (g := w.heap.size) (by have := C8.out.l1; omega) mm.ag); have CAP := hid X8.out.cap.1; have X9 := hid (X8.out.setRow (g := w.heap.size) (by have := C8.out.l1; have := SXW.out; omega) mm.ag).reads; obtain ⟨V9, hV9⟩ : ∃ V9, V9 = w8.setRow w.heap.size mm.ag := ⟨_, rfl⟩; rw [← hV9] at C9 O9 X9; have HV9 := hid hV9; clear hV9; rw [XL.out] at CAP; rw [XL.out])
          | (refine wpList_storeM rfl (.tmp 2) (.tmp 42) rfl _ mk mm rfl rfl C8.out.F.A KO.out OKM.out ?_; rw [← HV9.out]; clear HV9))
        clear cp
        refine wp_region_ord [] [0, 1, 2, 3, 4, 5, 6, 7] 8 [9, 10, 11, 12, 13, 14, 15] (fun W => FdX w W mm ps gN now A c zs A2 x) (by kernel_rfl) (by kernel_rfl) rfl ⟨C9.out.below ((Below.refl _ _).drew), O9.out.drew, X9.out.below ((Below.refl _ _).drew)⟩ (fun _ _ d _ _ h => by cases d <;> exact h) ?_
        simp only [opsAt, List.getElem?_toArray, List.getElem?_cons_zero, List.getElem?_cons_succ]
        refine wpYields_nil ?_
        refine wpQuiet_step (fun K hK => ?_)
        go_simp
        apply Exists.intro
        refine ⟨fun W hW => rfl, hK _ ?_⟩
        clear hK K
        refine wpQuiet_step (fun K hK => ?_)
        refine quiet_mid (by rfl) 22 (.tmp 45) rfl w.heap.size 0 rfl (ints mm.r) _ (fun W hW => hW.D.F.A.R OKM.out) Tryz.underlying22 rfl (by rw [size8, ints_len, OKM.out.r]) ?_
        refine hK _ ?_; clear hK K
        refine wpQuiet_step (fun K hK => ?_)
        refine quiet_mid (by rfl) 22 (.tmp 6) rfl gN 0 rfl (ints now) _ (fun W hW => range_of hW.D.N [] (ints now) [] (by simp) rfl) Tryz.underlying22 rfl (by rw [size8, ints_len, NL.out]) ?_
        refine hK _ ?_; clear hK K
        refine wpQuiet_step (fun K hK => ?_)
        go_simp
        apply Exists.intro
        refine ⟨fun W hW => rfl, hK _ ?_⟩
        clear hK K
        refine wpQuiet_step (fun K hK => ?_)
        go_simp
        apply Exists.intro
        refine ⟨fun W hW => ?_, hK _ ?_⟩
        · with_reducible exact (KPd.out W).mono fun e w' h => ⟨h.1, hW.below h.2⟩
        clear hK K
        refine wpQuiet_step (fun K hK => ?_)
        go_simp
        apply Exists.intro
        refine ⟨fun W hW => rfl, hK _ ?_⟩
        clear hK K
        refine wpQuiet_step (fun K hK => ?_)
        refine quiet_mid (by rfl) 22 (.tmp 50) rfl w.heap.size 8 rfl (ints mm.p) _ (fun W hW => hW.D.F.A.P OKM.out) Tryz.underlying22 rfl (by rw [size8, ints_len, OKM.out.p]) ?_
        refine hK _ ?_; clear hK K
        refine wpQuiet_step (fun K hK => ?_)
        go_simp
        apply Exists.intro
        refine ⟨fun W hW => rfl, hK _ ?_⟩
        clear hK K
        refine wpQuiet_nil ?_
        intro WA hWA
        have CA := hid hWA.D
        have OA := hid hWA.O
        have XA := hid hWA.X
        clear hWA
        have SXA := hid (show gN < WA.heap.size from CA.out.glt)
        go_wp2_with fail
        with_reducible refine (KMk.out WA A2 c2 XA.out CAP.out).mono ?_
        rintro e w11 ⟨A3, c3, er, rfl, hO, hB⟩
        have C11 := hid (CA.out.below hB)
        have O11 := hid (OA.out.below hB)
        have X11 := hid hO
        clear hO hB
        have C12 := hid (show Fd w (w11.setCells w.heap.size 8 (ints mn.p)) mn ps gN now from PM.out ▸ C11.out.setP OKM.out mn.p Kn.out.p)
        have O12 := hid (Own.setCs (g := w.heap.size) (by have := C11.out.l1; omega) (ints mn.p) 8 _ O11.out)
        have X12 := hid (Own.setCs (g := w.heap.size) (by have := C11.out.l1; have := SXA.out; omega) (ints mn.p) 8 _ X11.out).reads
        have SZP := hid (show (Tryz.prog.info? 22).map (·.size) = some (agi mn.p).size from by rw [agi_size, Kn.out.p]; exact size8)
        have THP := hid (show w11.there w.heap.size 8 (agi mn.p).size from by rw [agi_size, Kn.out.p]; exact C11.out.F.A.thereP OKM.out)
        obtain ⟨V12, hV12⟩ : ∃ V12, V12 = w11.setCells w.heap.size 8 (ints mn.p) := ⟨_, rfl⟩
        rw [← hV12] at C12 O12 X12
        have HV12 := hid hV12
        clear hV12
        go_wp2_with (first
          | (refine wpList_store_mid rfl 22 (.tmp 57) (.tmp 55) rfl w.heap.size 8 (agi mn.p) rfl rfl THP.out SZP.out (agi_one _) ?_; rw [show (agi mn.p).toList = ints mn.p from rfl, ← HV12.out]; clear HV12)
          | (at_builtin; refine wpList_catN rfl (.tmp 58) (.tmp 59) rfl (gN + 1) A c n zs rfl LZ.out O12.out V12.heap.size A3 c3 40 y rfl YL.out X12.out (by have := HN.out; omega) (by have := C12.out.glt; omega) ?_; intro A13 c13 w13 hO hG hA; have C13 := hid (C12.out.grown O12.out hG); have O13 := hid hO; clear hO hG hA))
        go_roundw
        case rel => exact ⟨k + 1, A13, c13, n + 40, by omega, by go_num, rfl, hid (by have := HN.out; omega), hid (by rw [NZ.out]; exact O13.out), hid (by rw [NM.out]; exact C13.out)⟩
        case measure => simp [intOf] <;> omega
      · obtain rfl : k = 2 := by omega
        obtain rfl : n = 80 := HN.out
        obtain ⟨mk, hmk⟩ : ∃ mk, mk = frK false was now ps m0 2 := ⟨_, rfl⟩
        have OKS := hid (show mk.ok from by rw [hmk]; exact KK.out 2 (Nat.le_refl _))
        have FZ := hid (FM.out mk hmk)
        have LO := hid (frO_len m ps)
        rw [← hmk] at HC
        rw [← FO.out _ rfl] at HO
        clear hmk FO FM KK KG KU KA
        generalize frO m ps = yf at *
        generalize frM m ps = mf at *
        have cp := hid (fun W (h : IB W (w.heap.size + 1) 38 ps) => show W.cell? ⟨w.heap.size + 1, 0, none⟩ = some (.int .i64 1) from by
          have h2 := h.cell 0 (by rw [HL.out]; omega)
          rw [← P0.out] at h2
          exact h2)
        go_wp2
        have GL := hid (show w.heap.size + 3 < gN + 1 from by have := HC.out.l1; omega)
        have HS0 : wr.drew.rangeAt gN 0 (ints now) ∧ wr.drew.cell? ⟨w.heap.size + 1, 0, none⟩ = some (.int .i64 1) := ⟨range_of (Blk.drew HC.out.N) [] (ints now) [] (by simp) rfl, cp.out wr.drew (Blk.drew HC.out.F.P)⟩
        refine wp_region_held (S := (fun W => W.rangeAt gN 0 (ints now) ∧ W.cell? ⟨w.heap.size + 1, 0, none⟩ = some (.int .i64 1))) (by kernel_rfl) ?_
        change wpAnyH _ _ _ _ _ _ _ _ wr.drew
        refine wpAnyH_take (i := 1) (v := .pointer (some ⟨w.heap.size + 1, 0, none⟩)) rfl (by kernel_rfl) (by kernel_rfl) (by kernel_rfl) (fun _ _ _ h => h) (.inl ⟨by rfl, fun W hW => by go_simp⟩) HS0 ?_
        refine wpAnyH_take (i := 2) (v := .int .i64 1) rfl (by kernel_rfl) (by kernel_rfl) (by kernel_rfl) (fun _ _ _ h => h) (.inl ⟨by rfl, fun W hW => by have hc := hW.2; go_simp⟩) HS0 ?_
        refine wpAnyH_take (i := 3) (v := .bool false) rfl (by kernel_rfl) (by kernel_rfl) (by kernel_rfl) (fun _ _ _ h => h) (.inl ⟨by rfl, fun W hW => by go_simp⟩) HS0 ?_
        refine wpAnyH_take (i := 0) (v := .agg (ints now).toArray) rfl (by kernel_rfl) (by kernel_rfl) (by kernel_rfl) (fun _ _ _ h => h) (yieldsIf_load_mid (by rfl) 22 (.tmp 6) rfl gN 0 rfl (ints now) _ (fun W hW => hW.1) Tryz.underlying22 rfl (by rw [size8, ints_len, NL.out])) HS0 ?_
        refine wpAnyH_take (i := 4) (v := .pointer (some ⟨w.heap.size, 0, none⟩)) rfl (by kernel_rfl) (by kernel_rfl) (by kernel_rfl) (fun _ _ _ h => h) (.inl ⟨by rfl, fun W hW => by go_simp⟩) HS0 ?_
        have S8 := hid (show Fb w (wr.drew.setCells w.heap.size 0 (ints now)) { mk with r := now } ps from (HC.out.F.below ((Below.refl _ _).drew)).setRf OKS.out now NL.out)
        have N8 := hid (show IB (wr.drew.setCells w.heap.size 0 (ints now)) gN 22 now from blk_sc (by have := HC.out.l1; omega) _ _ _ (Blk.drew HC.out.N))
        have TH := hid (show wr.drew.there w.heap.size 0 (ints now).toArray.size from by
          have h2 := (HC.out.F.below ((Below.refl _ _).drew)).A.thereR OKS.out
          have e : (ints now).toArray.size = 8 := by rw [List.size_toArray, ints_len, NL.out]
          rw [e]
          exact h2)
        have SZN := hid (show (Tryz.prog.info? 22).map (·.size) = some (ints now).toArray.size from by rw [List.size_toArray, ints_len, NL.out]; exact size8)
        have O8 := hid (Own.setCs (g := w.heap.size) (by have := GL.out; omega) (ints now) 0 _ HO.out.drew)
        obtain ⟨V8, hV8⟩ : ∃ V8, V8 = wr.drew.setCells w.heap.size 0 (ints now) := ⟨_, rfl⟩
        rw [← hV8] at S8 O8 N8
        have K8 := hid (show ({ mk with r := now } : Mm).ok from ⟨NL.out, OKS.out.p, OKS.out.e⟩)
        have HS8 : V8.rangeAt gN 0 (ints now) ∧ V8.cell? ⟨w.heap.size + 1, 0, none⟩ = some (.int .i64 1) := ⟨range_of N8.out [] (ints now) [] (by simp) rfl, cp.out V8 S8.out.P⟩
        have d8 := S8.out.A.cer K8.out
        have f8 := MB.frozen S8.out.A 99
        have S9 := hid (S8.out.setEr K8.out 0)
        have N9 := hid (Blk.far N8.out (p := ⟨w.heap.size, 99, none⟩) (show gN ≠ w.heap.size by have := GL.out; have := HC.out.l1; omega) (.int .i64 0))
        have O9 := hid (Own.setC (g := w.heap.size) O8.out (by have := GL.out; omega) 99 (.int .i64 0))
        have K9 := hid (show ({ mk with r := now, er := 0 } : Mm).ok from ⟨NL.out, OKS.out.p, OKS.out.e⟩)
        refine wpAnyH_ready (rs := [5]) (by kernel_rfl) (by simp) (AllReadyH.cons rfl (fun K hK => ?_) AllReadyH.nil)
        rw [if_pos (by rfl)]
        simp only [Act.put, List.setIfInBounds_toArray, List.set_cons_zero, List.set_cons_succ, List.getElem_toArray, List.getElem_cons_succ, List.getElem_cons_zero]
        refine wp_store_mid 22 (.tmp 65) (.tmp 61) rfl w.heap.size 0 (ints now).toArray rfl rfl TH.out SZN.out (agi_one _) ?_
        rw [show (ints now).toArray.toList = ints now from rfl, ← hV8]
        refine hK.out _ _ HS8 (fun _ => ?_)
        clear hK K hV8
        refine wpAnyH_take (i := 6) (v := .pointer (some ⟨w.heap.size, 99, none⟩)) rfl (by kernel_rfl) (by kernel_rfl) (by kernel_rfl) (fun _ _ _ h => h) (.inl ⟨by rfl, fun W hW => by go_simp⟩) HS8 ?_
        refine wpAnyH_ready (rs := [7]) (by kernel_rfl) (by simp) (AllReadyH.cons rfl (fun K hK => ?_) AllReadyH.nil)
        go_simp
        obtain ⟨V9, hV9⟩ : ∃ V9, V9 = V8.setCell ⟨w.heap.size, 99, none⟩ (.int .i64 0) := ⟨_, rfl⟩
        rw [← hV9] at S9 O9 N9 ⊢
        have HS9 : V9.rangeAt gN 0 (ints now) ∧ V9.cell? ⟨w.heap.size + 1, 0, none⟩ = some (.int .i64 1) := ⟨range_of N9.out [] (ints now) [] (by simp) rfl, cp.out V9 S9.out.P⟩
        have d9 := S9.out.A.csi K9.out
        have f9 := MB.frozen S9.out.A 101
        have S10 := hid (show Fb w (V9.setCell ⟨w.heap.size, 101, none⟩ (.bool false)) mf ps from by rw [FZ.out]; exact S9.out.setSi K9.out false)
        have N10 := hid (Blk.far N9.out (p := ⟨w.heap.size, 101, none⟩) (show gN ≠ w.heap.size by have := HC.out.l1; omega) (.bool false))
        have O10 := hid (Own.setC (g := w.heap.size) O9.out (by have := GL.out; omega) 101 (.bool false))
        refine hK.out _ _ HS9 (fun _ => ?_)
        clear hK K hV9 d8 f8
        refine wpAnyH_take (i := 8) (v := .pointer (some ⟨w.heap.size, 101, none⟩)) rfl (by kernel_rfl) (by kernel_rfl) (by kernel_rfl) (fun _ _ _ h => h) (.inl ⟨by rfl, fun W hW => by go_simp⟩) HS9 ?_
        refine wpAnyH_ready (rs := [9]) (by kernel_rfl) (by simp) (AllReadyH.cons rfl (fun K hK => ?_) AllReadyH.nil)
        go_simp
        obtain ⟨V10, hV10⟩ : ∃ V10, V10 = V9.setCell ⟨w.heap.size, 101, none⟩ (.bool false) := ⟨_, rfl⟩
        rw [← hV10] at S10 O10 N10 ⊢
        have HS10 : V10.rangeAt gN 0 (ints now) ∧ V10.cell? ⟨w.heap.size + 1, 0, none⟩ = some (.int .i64 1) := ⟨range_of N10.out [] (ints now) [] (by simp) rfl, cp.out V10 S10.out.P⟩
        refine hK.out _ _ HS10 (fun _ => ?_)
        clear hK K hV10 d9 f9 HS8 HS9 HS10 HS0
        refine wpAnyH_done (by kernel_rfl) ?_ _
        have OKF := hid (show mf.ok from by rw [FZ.out]; exact ⟨NL.out, OKS.out.p, OKS.out.e⟩)
        try simp only [Exit.then]
        go_wp2_with (first
          | (refine wpList_loadM rfl (.tmp 2) rfl _ mf rfl S10.out.A OKF.out ?_)
          | (refine wpList_storeM rfl (.tmp 4) (.tmp 68) rfl _ zeroM mf rfl rfl S10.out.R zeroM_ok OKF.out ?_))
        refine bodyPost_ret (v := _) (hR _ _ _ mf rfl (MB.setRow S10.out.R mf) OKF.out) rfl ?_
        exact ⟨A, c, by rw [LO.out]; rfl, (O10.out.setRow (g := w.heap.size + 2) (by have := GL.out; omega) mf.ag).more (base' := w.heap.size) (by have := GL.out; omega), below_setRow S10.out.bel (g := w.heap.size + 2) (by omega) mf.ag⟩
  · have e0 := hid (show m0 = m from by rw [M0.out]; unfold fr0; rw [← P0.out, if_neg (by decide)])
    have eq0 := hid (show q = true from by rw [HQ.out]; unfold frQ; rw [← P0.out]; decide)
    have e0 := e0.out
    subst e0
    have eq0 := eq0.out
    subst eq0
    clear M0 HQ
    go_enter Tryz.func27, Tryz.ntmps27
    go_wp2_with (first
      | (rw [HV.out]; clear HV)
      | (refine wpList_load_mid rfl 22 (.tmp 17) rfl _ _ rfl (ints rp) _ (HRP.out _ _ S0.out.P) Tryz.underlying22 rfl HI8.out ?_))
    with_reducible refine (KV.out V S0.out.bel).mono ?_
    rintro e w1 ⟨rfl, hB⟩
    have S1 := hid (S0.out.below hB)
    clear hB S0 KV c0
    have SX1 := hid S1.out.lt
    go_wp2_with (first
      | (refine wpList_storeI rfl 22 (.tmp 6) (.tmp 20) rfl _ 22 Z8 now 8 rfl rfl (IB.new w1 22 Z8) size8 rfl NL.out ?_
         have BB := below_stored w1 (.cells (agi Z8) 22) (agi now)
         obtain ⟨V2, hV⟩ : ∃ V2, V2 = (w1.alloc (.cells (agi Z8) 22)).setRow w1.heap.size (agi now) := ⟨_, rfl⟩
         have S2 := hid (show Fd w V2 m0 ps w1.heap.size now from by rw [hV]; exact ⟨S1.out.below BB, IB.stored w1 22 Z8 now, SX1.out⟩)
         rw [z8_eq] at hV
         rw [← hV]
         clear hV BB))
    obtain ⟨gN, hgN⟩ : ∃ gN, gN = w1.heap.size := ⟨_, rfl⟩
    rw [← hgN] at S2
    rw [← hgN]
    clear hgN S1 SX1
    go_loopw [8, 9] (fun ov iv wr => ∃ (k : Nat) (A : Option Addr) (c n : Nat), k ≤ 2 ∧ iv = .int .i64 k ∧ ov = .slice A n c ∧ Hid (n = 40 * k) ∧ Hid (Own wr (gN + 1) A c (frZ true was now ps m0 k)) ∧ Hid (Fd w wr (frK true was now ps m0 k) ps gN now)) (fun _ iv _ => 2 - (intOf iv).toNat)
    case atStart => exact ⟨0, none, 0, 0, by omega, rfl, rfl, hid rfl, hid Own.nil, S2⟩
    case round =>
      clear S2
      obtain ⟨k, A, c, n, hk, rfl, rfl, HN, HO, HC⟩ := hrel
      by_cases hlt : k < 2
      · have KO := hid (KK.out k (by omega))
        have GO := hid (KG.out k (by omega))
        have Kn := hid (KK.out (k + 1) (by omega))
        have NM := hid (show frK true was now ps m0 (k + 1) = frP true (frA was now k) (frK true was now ps m0 k) (subL ps k) from rfl)
        have NZ := hid (show frZ true was now ps m0 (k + 1) = frZ true was now ps m0 k ++ frY true (frA was now k) (frK true was now ps m0 k) (subL ps k) from rfl)
        have YL := hid (frY_len true (frA was now k) (frK true was now ps m0 k) (subL ps k))
        have LZ := hid (show (frZ true was now ps m0 k).length = n from by rw [frZ_len, HN.out])
        have UU := KU.out k hlt
        have GA := KA.out k hlt
        have OKM := hid (frN_ok true KO.out UU)
        have XL := hid (frX_len true (frK true was now ps m0 k) UU)
        have KPd := hid (fun W => show Calls Tryz.prog 54 #[.agg (ints (frN true (frK true was now ps m0 k) (subL ps k)).r).toArray, .agg (ints now).toArray, .int .i64 (k : Nat)] W (fun e w' => e = .returned (.agg (agi (frA was now k))) ∧ Below W.heap.size W w') from by
          rw [show (frN true (frK true was now ps m0 k) (subL ps k)).r = was from by rw [frN_r, frK_r]; exact HW.out.symm]
          exact predictor_any was now k W WL.out NL.out hlt SW.out SN.out)
        have h3 := frP_make true GO.out UU GA
        have KMk := hid (fun W A2 c2 (h : Rs W W.heap.size A2 (frX true (frK true was now ps m0 k) (subL ps k))) (hc : 40 ≤ c2) => show Calls Tryz.prog 57 #[.agg (agi (frA was now k)), .agg (ints (frN true (frK true was now ps m0 k) (subL ps k)).p).toArray, .slice A2 40 c2] W (fun e w' => ∃ A3 c3 er, e = .returned (.tuple #[.slice A3 40 c3, .agg (agi (frP true (frA was now k) (frK true was now ps m0 k) (subL ps k)).p), .int .i64 er]) ∧ Own w' W.heap.size A3 c3 (frY true (frA was now k) (frK true was now ps m0 k) (subL ps k)) ∧ Below W.heap.size W w') from by
          have h1 := refMake_any (frA was now k) (frN true (frK true was now ps m0 k) (subL ps k)).p _ A2 c2 40 W (frA_len _ _ _) OKM.out.p h XL.out (by omega) hc
          rw [h3.1, h3.2.1] at h1
          refine h1.mono ?_
          rintro e w' ⟨A3, c3, h1, h2, h3⟩
          rw [frY_len] at h1
          exact ⟨A3, c3, _, h1, h2, h3⟩)
        have PM := hid h3.2.2
        clear h3
        have h2 := frP_still (a := frA was now k) GO.out UU GA
        have KS := hid (fun W => show Calls Tryz.prog 77 #[.agg (frK true was now ps m0 k).ag] W (NewM W (frN true (frK true was now ps m0 k) (subL ps k)) (frX true (frK true was now ps m0 k) (subL ps k)) (errOf (goodM (frK true was now ps m0 k)))) from by
          have h1 := refSilent_any (frK true was now ps m0 k) KO.out (goodM_64 GO.out) W
          rw [h2.1, h2.2.1] at h1
          exact h1)
        clear h2
        generalize errOf (goodM (frK true was now ps m0 k)) = er at *
        rw [NM.out] at Kn
        generalize frP true (frA was now k) (frK true was now ps m0 k) (subL ps k) = mn at *
        generalize frY true (frA was now k) (frK true was now ps m0 k) (subL ps k) = y at *
        generalize frN true (frK true was now ps m0 k) (subL ps k) = mm at *
        generalize frX true (frK true was now ps m0 k) (subL ps k) = x at *
        generalize frA was now k = a at *
        generalize frK true was now ps m0 k = mk at *
        generalize frZ true was now ps m0 k = zs at *
        generalize subL ps k = su at *
        have cp := HC.out.F.P.cell 0 (by rw [HL.out]; omega)
        rw [← P0.out] at cp
        clear KK KG KU KA UU GA GO
        go_wp2_with (first
          | (refine wpList_loadM rfl (.tmp 2) rfl _ mk rfl HC.out.F.A KO.out ?_))
        with_reducible refine (KS.out wr).mono ?_
        rintro e w8 ⟨A2, c2, rfl, hO, hB⟩
        have C8 := hid (HC.out.below hB)
        have O8 := hid (HO.out.below hB)
        have X8 := hid hO
        have SXW := hid HC.out.glt
        clear hO hB KS
        have C9 := hid (C8.out.setA (mm := mm))
        have O9 := hid (O8.out.setRow (g := w.heap.size) (by have := C8.out.l1; omega) mm.ag)
        have CAP := hid X8.out.cap.1
        have X9 := hid (X8.out.setRow (g := w.heap.size) (by have := C8.out.l1; have := SXW.out; omega) mm.ag).reads
        obtain ⟨V9, hV9⟩ : ∃ V9, V9 = w8.setRow w.heap.size mm.ag := ⟨_, rfl⟩
        rw [← hV9] at C9 O9 X9
        have HV9 := hid hV9
        clear hV9
        rw [XL.out] at CAP
        rw [XL.out]
        go_wp2_with (refine wpList_storeM rfl (.tmp 2) (.tmp 32) rfl _ mk mm rfl rfl C8.out.F.A KO.out OKM.out ?_; rw [← HV9.out]; clear HV9)
        clear cp
        refine wp_region_ord [] [0, 1, 2, 3, 4, 5, 6, 7] 8 [9, 10, 11, 12, 13, 14, 15] (fun W => FdX w W mm ps gN now A c zs A2 x) (by kernel_rfl) (by kernel_rfl) rfl ⟨C9.out.below ((Below.refl _ _).drew), O9.out.drew, X9.out.below ((Below.refl _ _).drew)⟩ (fun _ _ d _ _ h => by cases d <;> exact h) ?_
        simp only [opsAt, List.getElem?_toArray, List.getElem?_cons_zero, List.getElem?_cons_succ]
        refine wpYields_nil ?_
        refine wpQuiet_step (fun K hK => ?_)
        go_simp
        apply Exists.intro
        refine ⟨fun W hW => rfl, hK _ ?_⟩
        clear hK K
        refine wpQuiet_step (fun K hK => ?_)
        refine quiet_mid (by rfl) 22 (.tmp 45) rfl w.heap.size 0 rfl (ints mm.r) _ (fun W hW => hW.D.F.A.R OKM.out) Tryz.underlying22 rfl (by rw [size8, ints_len, OKM.out.r]) ?_
        refine hK _ ?_; clear hK K
        refine wpQuiet_step (fun K hK => ?_)
        refine quiet_mid (by rfl) 22 (.tmp 6) rfl gN 0 rfl (ints now) _ (fun W hW => range_of hW.D.N [] (ints now) [] (by simp) rfl) Tryz.underlying22 rfl (by rw [size8, ints_len, NL.out]) ?_
        refine hK _ ?_; clear hK K
        refine wpQuiet_step (fun K hK => ?_)
        go_simp
        apply Exists.intro
        refine ⟨fun W hW => rfl, hK _ ?_⟩
        clear hK K
        refine wpQuiet_step (fun K hK => ?_)
        go_simp
        apply Exists.intro
        refine ⟨fun W hW => ?_, hK _ ?_⟩
        · with_reducible exact (KPd.out W).mono fun e w' h => ⟨h.1, hW.below h.2⟩
        clear hK K
        refine wpQuiet_step (fun K hK => ?_)
        go_simp
        apply Exists.intro
        refine ⟨fun W hW => rfl, hK _ ?_⟩
        clear hK K
        refine wpQuiet_step (fun K hK => ?_)
        refine quiet_mid (by rfl) 22 (.tmp 50) rfl w.heap.size 8 rfl (ints mm.p) _ (fun W hW => hW.D.F.A.P OKM.out) Tryz.underlying22 rfl (by rw [size8, ints_len, OKM.out.p]) ?_
        refine hK _ ?_; clear hK K
        refine wpQuiet_step (fun K hK => ?_)
        go_simp
        apply Exists.intro
        refine ⟨fun W hW => rfl, hK _ ?_⟩
        clear hK K
        refine wpQuiet_nil ?_
        intro WA hWA
        have CA := hid hWA.D
        have OA := hid hWA.O
        have XA := hid hWA.X
        clear hWA
        have SXA := hid (show gN < WA.heap.size from CA.out.glt)
        go_wp2_with fail
        with_reducible refine (KMk.out WA A2 c2 XA.out CAP.out).mono ?_
        rintro e w11 ⟨A3, c3, er, rfl, hO, hB⟩
        have C11 := hid (CA.out.below hB)
        have O11 := hid (OA.out.below hB)
        have X11 := hid hO
        clear hO hB
        have C12 := hid (show Fd w (w11.setCells w.heap.size 8 (ints mn.p)) mn ps gN now from PM.out ▸ C11.out.setP OKM.out mn.p Kn.out.p)
        have O12 := hid (Own.setCs (g := w.heap.size) (by have := C11.out.l1; omega) (ints mn.p) 8 _ O11.out)
        have X12 := hid (Own.setCs (g := w.heap.size) (by have := C11.out.l1; have := SXA.out; omega) (ints mn.p) 8 _ X11.out).reads
        have SZP := hid (show (Tryz.prog.info? 22).map (·.size) = some (agi mn.p).size from by rw [agi_size, Kn.out.p]; exact size8)
        have THP := hid (show w11.there w.heap.size 8 (agi mn.p).size from by rw [agi_size, Kn.out.p]; exact C11.out.F.A.thereP OKM.out)
        obtain ⟨V12, hV12⟩ : ∃ V12, V12 = w11.setCells w.heap.size 8 (ints mn.p) := ⟨_, rfl⟩
        rw [← hV12] at C12 O12 X12
        have HV12 := hid hV12
        clear hV12
        go_wp2_with (first
          | (refine wpList_store_mid rfl 22 (.tmp 57) (.tmp 55) rfl w.heap.size 8 (agi mn.p) rfl rfl THP.out SZP.out (agi_one _) ?_; rw [show (agi mn.p).toList = ints mn.p from rfl, ← HV12.out]; clear HV12)
          | (at_builtin; refine wpList_catN rfl (.tmp 58) (.tmp 59) rfl (gN + 1) A c n zs rfl LZ.out O12.out V12.heap.size A3 c3 40 y rfl YL.out X12.out (by have := HN.out; omega) (by have := C12.out.glt; omega) ?_; intro A13 c13 w13 hO hG hA; have C13 := hid (C12.out.grown O12.out hG); have O13 := hid hO; clear hO hG hA))
        go_roundw
        case rel => exact ⟨k + 1, A13, c13, n + 40, by omega, by go_num, rfl, hid (by have := HN.out; omega), hid (by rw [NZ.out]; exact O13.out), hid (by rw [NM.out]; exact C13.out)⟩
        case measure => simp [intOf] <;> omega
      · obtain rfl : k = 2 := by omega
        obtain rfl : n = 80 := HN.out
        obtain ⟨mk, hmk⟩ : ∃ mk, mk = frK true was now ps m0 2 := ⟨_, rfl⟩
        have OKS := hid (show mk.ok from by rw [hmk]; exact KK.out 2 (Nat.le_refl _))
        have FZ := hid (FM.out mk hmk)
        have LO := hid (frO_len m0 ps)
        rw [← hmk] at HC
        rw [← FO.out _ rfl] at HO
        clear hmk FO FM KK KG KU KA
        generalize frO m0 ps = yf at *
        generalize frM m0 ps = mf at *
        have cp := hid (fun W (h : IB W (w.heap.size + 1) 38 ps) => show W.cell? ⟨w.heap.size + 1, 0, none⟩ = some (.int .i64 2) from by
          have h2 := h.cell 0 (by rw [HL.out]; omega)
          rw [← P0.out] at h2
          exact h2)
        go_wp2
        have GL := hid (show w.heap.size + 3 < gN + 1 from by have := HC.out.l1; omega)
        have HS0 : wr.drew.rangeAt gN 0 (ints now) ∧ wr.drew.cell? ⟨w.heap.size + 1, 0, none⟩ = some (.int .i64 2) := ⟨range_of (Blk.drew HC.out.N) [] (ints now) [] (by simp) rfl, cp.out wr.drew (Blk.drew HC.out.F.P)⟩
        refine wp_region_held (S := (fun W => W.rangeAt gN 0 (ints now) ∧ W.cell? ⟨w.heap.size + 1, 0, none⟩ = some (.int .i64 2))) (by kernel_rfl) ?_
        change wpAnyH _ _ _ _ _ _ _ _ wr.drew
        refine wpAnyH_take (i := 1) (v := .pointer (some ⟨w.heap.size + 1, 0, none⟩)) rfl (by kernel_rfl) (by kernel_rfl) (by kernel_rfl) (fun _ _ _ h => h) (.inl ⟨by rfl, fun W hW => by go_simp⟩) HS0 ?_
        refine wpAnyH_take (i := 2) (v := .int .i64 2) rfl (by kernel_rfl) (by kernel_rfl) (by kernel_rfl) (fun _ _ _ h => h) (.inl ⟨by rfl, fun W hW => by have hc := hW.2; go_simp⟩) HS0 ?_
        refine wpAnyH_take (i := 3) (v := .bool true) rfl (by kernel_rfl) (by kernel_rfl) (by kernel_rfl) (fun _ _ _ h => h) (.inl ⟨by rfl, fun W hW => by go_simp⟩) HS0 ?_
        refine wpAnyH_take (i := 0) (v := .agg (ints now).toArray) rfl (by kernel_rfl) (by kernel_rfl) (by kernel_rfl) (fun _ _ _ h => h) (yieldsIf_load_mid (by rfl) 22 (.tmp 6) rfl gN 0 rfl (ints now) _ (fun W hW => hW.1) Tryz.underlying22 rfl (by rw [size8, ints_len, NL.out])) HS0 ?_
        refine wpAnyH_take (i := 4) (v := .pointer (some ⟨w.heap.size, 0, none⟩)) rfl (by kernel_rfl) (by kernel_rfl) (by kernel_rfl) (fun _ _ _ h => h) (.inl ⟨by rfl, fun W hW => by go_simp⟩) HS0 ?_
        have S8 := hid (show Fb w (wr.drew.setCells w.heap.size 0 (ints now)) { mk with r := now } ps from (HC.out.F.below ((Below.refl _ _).drew)).setRf OKS.out now NL.out)
        have N8 := hid (show IB (wr.drew.setCells w.heap.size 0 (ints now)) gN 22 now from blk_sc (by have := HC.out.l1; omega) _ _ _ (Blk.drew HC.out.N))
        have TH := hid (show wr.drew.there w.heap.size 0 (ints now).toArray.size from by
          have h2 := (HC.out.F.below ((Below.refl _ _).drew)).A.thereR OKS.out
          have e : (ints now).toArray.size = 8 := by rw [List.size_toArray, ints_len, NL.out]
          rw [e]
          exact h2)
        have SZN := hid (show (Tryz.prog.info? 22).map (·.size) = some (ints now).toArray.size from by rw [List.size_toArray, ints_len, NL.out]; exact size8)
        have O8 := hid (Own.setCs (g := w.heap.size) (by have := GL.out; omega) (ints now) 0 _ HO.out.drew)
        obtain ⟨V8, hV8⟩ : ∃ V8, V8 = wr.drew.setCells w.heap.size 0 (ints now) := ⟨_, rfl⟩
        rw [← hV8] at S8 O8 N8
        have K8 := hid (show ({ mk with r := now } : Mm).ok from ⟨NL.out, OKS.out.p, OKS.out.e⟩)
        have HS8 : V8.rangeAt gN 0 (ints now) ∧ V8.cell? ⟨w.heap.size + 1, 0, none⟩ = some (.int .i64 2) := ⟨range_of N8.out [] (ints now) [] (by simp) rfl, cp.out V8 S8.out.P⟩
        have d8 := S8.out.A.cer K8.out
        have f8 := MB.frozen S8.out.A 99
        have S9 := hid (S8.out.setEr K8.out 0)
        have N9 := hid (Blk.far N8.out (p := ⟨w.heap.size, 99, none⟩) (show gN ≠ w.heap.size by have := GL.out; have := HC.out.l1; omega) (.int .i64 0))
        have O9 := hid (Own.setC (g := w.heap.size) O8.out (by have := GL.out; omega) 99 (.int .i64 0))
        have K9 := hid (show ({ mk with r := now, er := 0 } : Mm).ok from ⟨NL.out, OKS.out.p, OKS.out.e⟩)
        refine wpAnyH_ready (rs := [5]) (by kernel_rfl) (by simp) (AllReadyH.cons rfl (fun K hK => ?_) AllReadyH.nil)
        rw [if_pos (by rfl)]
        simp only [Act.put, List.setIfInBounds_toArray, List.set_cons_zero, List.set_cons_succ, List.getElem_toArray, List.getElem_cons_succ, List.getElem_cons_zero]
        refine wp_store_mid 22 (.tmp 65) (.tmp 61) rfl w.heap.size 0 (ints now).toArray rfl rfl TH.out SZN.out (agi_one _) ?_
        rw [show (ints now).toArray.toList = ints now from rfl, ← hV8]
        refine hK.out _ _ HS8 (fun _ => ?_)
        clear hK K hV8
        refine wpAnyH_take (i := 6) (v := .pointer (some ⟨w.heap.size, 99, none⟩)) rfl (by kernel_rfl) (by kernel_rfl) (by kernel_rfl) (fun _ _ _ h => h) (.inl ⟨by rfl, fun W hW => by go_simp⟩) HS8 ?_
        refine wpAnyH_ready (rs := [7]) (by kernel_rfl) (by simp) (AllReadyH.cons rfl (fun K hK => ?_) AllReadyH.nil)
        go_simp
        obtain ⟨V9, hV9⟩ : ∃ V9, V9 = V8.setCell ⟨w.heap.size, 99, none⟩ (.int .i64 0) := ⟨_, rfl⟩
        rw [← hV9] at S9 O9 N9 ⊢
        have HS9 : V9.rangeAt gN 0 (ints now) ∧ V9.cell? ⟨w.heap.size + 1, 0, none⟩ = some (.int .i64 2) := ⟨range_of N9.out [] (ints now) [] (by simp) rfl, cp.out V9 S9.out.P⟩
        have d9 := S9.out.A.csi K9.out
        have f9 := MB.frozen S9.out.A 101
        have S10 := hid (show Fb w (V9.setCell ⟨w.heap.size, 101, none⟩ (.bool true)) mf ps from by rw [FZ.out]; exact S9.out.setSi K9.out true)
        have N10 := hid (Blk.far N9.out (p := ⟨w.heap.size, 101, none⟩) (show gN ≠ w.heap.size by have := HC.out.l1; omega) (.bool true))
        have O10 := hid (Own.setC (g := w.heap.size) O9.out (by have := GL.out; omega) 101 (.bool true))
        refine hK.out _ _ HS9 (fun _ => ?_)
        clear hK K hV9 d8 f8
        refine wpAnyH_take (i := 8) (v := .pointer (some ⟨w.heap.size, 101, none⟩)) rfl (by kernel_rfl) (by kernel_rfl) (by kernel_rfl) (fun _ _ _ h => h) (.inl ⟨by rfl, fun W hW => by go_simp⟩) HS9 ?_
        refine wpAnyH_ready (rs := [9]) (by kernel_rfl) (by simp) (AllReadyH.cons rfl (fun K hK => ?_) AllReadyH.nil)
        go_simp
        obtain ⟨V10, hV10⟩ : ∃ V10, V10 = V9.setCell ⟨w.heap.size, 101, none⟩ (.bool true) := ⟨_, rfl⟩
        rw [← hV10] at S10 O10 N10 ⊢
        have HS10 : V10.rangeAt gN 0 (ints now) ∧ V10.cell? ⟨w.heap.size + 1, 0, none⟩ = some (.int .i64 2) := ⟨range_of N10.out [] (ints now) [] (by simp) rfl, cp.out V10 S10.out.P⟩
        refine hK.out _ _ HS10 (fun _ => ?_)
        clear hK K hV10 d9 f9 HS8 HS9 HS10 HS0
        refine wpAnyH_done (by kernel_rfl) ?_ _
        have OKF := hid (show mf.ok from by rw [FZ.out]; exact ⟨NL.out, OKS.out.p, OKS.out.e⟩)
        try simp only [Exit.then]
        go_wp2_with (first
          | (refine wpList_loadM rfl (.tmp 2) rfl _ mf rfl S10.out.A OKF.out ?_)
          | (refine wpList_storeM rfl (.tmp 4) (.tmp 68) rfl _ zeroM mf rfl rfl S10.out.R zeroM_ok OKF.out ?_))
        refine bodyPost_ret (v := _) (hR _ _ _ mf rfl (MB.setRow S10.out.R mf) OKF.out) rfl ?_
        exact ⟨A, c, by rw [LO.out]; rfl, (O10.out.setRow (g := w.heap.size + 2) (by have := GL.out; omega) mf.ag).more (base' := w.heap.size) (by have := GL.out; omega), below_setRow S10.out.bel (g := w.heap.size + 2) (by omega) mf.ag⟩
end Go.Proofs.YthoiikkjjaldnaaGreatDoor

/- The walk of SetBytes. -/
namespace Go.Proofs.YthoiikkjjaldnaaGreatDoor
set_option linter.unusedVariables false
set_option linter.unusedSimpArgs false
set_option maxRecDepth 100000
open Go.RowKit

set_option maxHeartbeats 4000000 in
theorem SetBytes_any (w : World) (z : Nat) (A : Option Addr) (c : Nat) (xs : List Int) (hz : IntBlk w z) (hr : Rb w w.heap.size A xs) (hn : xs.length = 14) (hx : Byts xs) :
    Calls Tryz.prog 71 #[.pointer (some ⟨z, 0, none⟩), .slice A 14 c] w (Gives w z ((nb xs 14 : Nat) : Int)) := by
  have HZ := hid hz
  have HR := hid hr
  have HN := hid hn
  have HX := hid hx
  clear hz hr hn hx
  go_enter Tryz.func71, Tryz.ntmps71
  go_wp2
  go_loopw [5, 6] (fun rv iv wr => ∃ (i : Nat) (v : Value), i ≤ 14 ∧ iv = .int .i64 i ∧ v = rv ∧ Hid (Nm wr v (nb xs i)) ∧ Hid (Below w.heap.size w wr)) (fun _ iv _ => 14 - (intOf iv).toNat)
  case atStart => exact ⟨0, _, by omega, rfl, rfl, hid (Nm.nil w), hid (Below.refl _ _)⟩
  case round =>
    obtain ⟨i, v, hi, rfl, rfl, HV, HB⟩ := hrel
    by_cases hlt : i < 14
    · obtain ⟨ad, rfl, had, k0⟩ := (HR.out.below HB.out).at_ (k := i) (by rw [HN.out]; exact hlt)
      have hb := HX.out i
      have SX := hid (show nb xs (i + 1) = nb xs i * 2 ^ 8 + (xs.getD i 0).toNat from rfl)
      have hlt2 := nb_lt HX.out (i + 1)
      have hlt1 := nb_lt HX.out i
      have hX1 : nb xs i * 2 ^ 8 < 340282366920938463463374607431768211456 := by
        have h1 : nb xs (i + 1) < 2 ^ 112 := Nat.lt_of_lt_of_le hlt2 (Nat.pow_le_pow_right (by decide) (by omega))
        rw [SX.out] at h1
        have h2 : (2 : Nat) ^ 112 ≤ 340282366920938463463374607431768211456 := by decide
        omega
      have hX0 : nb xs i < 340282366920938463463374607431768211456 := by omega
      obtain ⟨x, hxe⟩ : ∃ x, x = xs.getD i 0 := ⟨_, rfl⟩
      rw [← hxe] at k0 hb SX
      clear hxe hlt1 hlt2
      generalize nb xs i = X at *
      obtain ⟨Y, hY⟩ : ∃ Y, Y = X * 2 ^ 8 := ⟨_, rfl⟩
      have KL := hid (fun W (h : Nm W v X) => show Calls Tryz.prog 79 #[v, .int .u64 8] W (GivesNm W Y) from by rw [hY]; exact left_any W v X 8 h (sm_of_lt hX0) (by omega))
      rw [← hY] at hX1 SX
      have KW := hid (fun W => words_any W x hb.1 (by omega))
      have hxs : x.toNat < 340282366920938463463374607431768211456 := by omega
      have hwx : IntKind.u64.wrap x = x := by rw [IntKind.wrap_u64]; omega
      have i0 : (0 : Int) ≤ i := by omega
      have i14 : (i : Int) < 14 := by omega
      have hsz := HB.out.size
      have hal : ad.block < wr.heap.size := by omega
      have KA := hid (fun W a b (h1 : Nm W a Y) (h2 : Nm W b x.toNat) => add_nm W a b Y x.toNat h1 h2 (sm_of_lt hX1) (sm_of_lt hxs))
      clear hY hb hX0 hX1 hxs
      go_wp2
      go_region_held3 (fun w' => w'.cell? (ad.add i) = some (.int .u8 x)) (go_keep) (first
        | (go_at_call 79; (with_reducible refine (KL.out wr.drew HV.out.drew).mono ?_); rintro e' wL ⟨⟨vL, rfl, hN⟩, hB⟩; have BL : Below wr.heap.size wr wL := ((Below.refl wr.heap.size wr).drew).trans hB; have kL := (BL.cell (p := ad.add i) (by rw [block_of_add]; exact hal)).trans k0; have NL := hid hN; have BL := hid BL; clear hN hB)
        | (go_at_call 146; (with_reducible refine (KW.out wL).mono ?_); rintro e' wW ⟨⟨vW, rfl, hN⟩, hB⟩; have NW := hid hN; have NL2 := hid (NL.out.below hB (Nat.le_refl _)); have BW := hid (BL.out.trans (hB.mono BL.out.size)); have kW := (BW.out.cell (p := ad.add i) (by rw [block_of_add]; exact hal)).trans k0; clear hN hB)
        | (go_at_call 146; (with_reducible refine (KW.out wr.drew).mono ?_); rintro e' wP ⟨⟨vP, rfl, hN⟩, hB⟩; have BP : Below wr.heap.size wr wP := ((Below.refl wr.heap.size wr).drew).trans hB; have kP := (BP.cell (p := ad.add i) (by rw [block_of_add]; exact hal)).trans k0; have NP := hid hN; have VP := hid (HV.out.drew.below hB (Nat.le_refl _)); have BP := hid BP; clear hN hB)
        | (go_at_call 79; (with_reducible refine (KL.out wP VP.out).mono ?_); rintro e' wQ ⟨⟨vQ, rfl, hN⟩, hB⟩; have NQ := hid hN; have NP2 := hid (NP.out.below hB (Nat.le_refl _)); have BQ := hid (BP.out.trans (hB.mono BP.out.size)); have kQ := (BQ.out.cell (p := ad.add i) (by rw [block_of_add]; exact hal)).trans k0; clear hN hB)
        | (go_at_call 145; (with_reducible refine (KA.out wW vL vW NL2.out NW.out).mono ?_); rintro e' wS ⟨⟨v3, rfl, hN⟩, hB⟩; have NS := hid hN; have BS := hid (BW.out.trans (hB.mono BW.out.size)); have kS := (BS.out.cell (p := ad.add i) (by rw [block_of_add]; exact hal)).trans k0; clear hN hB)
        | (go_at_call 145; (with_reducible refine (KA.out wQ vQ vP NQ.out NP2.out).mono ?_); rintro e' wS ⟨⟨v3, rfl, hN⟩, hB⟩; have NS := hid hN; have BS := hid (BQ.out.trans (hB.mono BQ.out.size)); have kS := (BS.out.cell (p := ad.add i) (by rw [block_of_add]; exact hal)).trans k0; clear hN hB))
      all_goals
          rename_i hHeldZ
          clear hHeldZ
          try simp only [Exit.then]
          go_wp2
          go_roundw
          case rel => exact ⟨i + 1, v3, by omega, by go_num, rfl, hid (by rw [SX.out]; exact NS.out), hid (HB.out.trans (BS.out.mono HB.out.size))⟩
          case measure => simp [intOf] <;> omega
    · obtain rfl : i = 14 := by omega
      have KG := hid (give_any wr z false v (nb xs 14) (HZ.out.below HB.out (Nat.le_refl _)) HV.out)
      go_wp2_with (go_at_call 78; (with_reducible refine KG.out.mono ?_); rintro e w1 ⟨rfl, hI, hG⟩)
      go_ret
      exact ⟨rfl, by have := hI; unfold sgn at this; simpa using this, grownBy_trans (grownBy_of_below HB.out (Nat.le_refl _) (some z)) hG⟩
end Go.Proofs.YthoiikkjjaldnaaGreatDoor
