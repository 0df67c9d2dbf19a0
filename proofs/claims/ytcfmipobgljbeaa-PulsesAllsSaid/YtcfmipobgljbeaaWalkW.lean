/- The walks of what names the places: the closures of package pulses' All and Few. -/
import Derived.Test.YtcfmipobgljbeaaBestW
namespace Go.Proofs.Ytcfmipobgljbeaa
set_option linter.unusedVariables false
set_option linter.unusedSimpArgs false
set_option maxRecDepth 100000
open Go.RowKit

/-- The search's closure as a value. -/
def bestFn (g gd : Nat) : Value := .func (.func 85) #[] #[.pointer (some ⟨gd, 0, none⟩), .pointer (some ⟨g, 0, none⟩), .pointer (some ⟨g + 2, 0, none⟩), .pointer (some ⟨g + 3, 0, none⟩), .pointer (some ⟨g + 4, 0, none⟩), .pointer (some ⟨g + 1, 0, none⟩)]
def in64 (s : Bst) : Prop := (-9223372036854775808 ≤ s.c ∧ s.c ≤ 9223372036854775807) ∧ -9223372036854775808 ≤ s.e ∧ s.e ≤ 9223372036854775807
theorem dig_step (n t : Nat) (ht : t < 4) : ((n / 10 ^ t % 10 : Nat) : Int) = dig n (3 - t) := by
  unfold dig
  rw [show 3 - (3 - t) = t by omega]
theorem digs_all {N : Nat} (hN : N < 10000) {xs : List Int} (hl : xs.length = 4) (h : ∀ j, j < 4 → 4 ≤ j + 4 → xs.getD j 0 = dig N j) : xs = allX N := by
  refine list_ext hl fun k hk => ?_
  rw [h k (by omega) (by omega)]
  unfold dig allX
  have hk4 : k = 0 ∨ k = 1 ∨ k = 2 ∨ k = 3 := by omega
  rcases hk4 with rfl | rfl | rfl | rfl
  · show ((N / 10 ^ 3 % 10 : Nat) : Int) = ((N / 1000 : Nat) : Int)
    omega
  · show ((N / 10 ^ 2 % 10 : Nat) : Int) = ((N / 100 % 10 : Nat) : Int)
    rfl
  · show ((N / 10 ^ 1 % 10 : Nat) : Int) = ((N / 10 % 10 : Nat) : Int)
    rfl
  · show ((N / 10 ^ 0 % 10 : Nat) : Int) = ((N % 10 : Nat) : Int)
    simp

set_option maxHeartbeats 4000000 in
theorem allWalk_any (g gd gt c : Nat) (A : Option Addr) (L d ring : List Int) (s0 : Bst) (w : World) (S : Sst g gd A c gt L d s0 w) (dl : d.length = 40) (dw : W64 d) (hT : Tbl L ring 40 0) (hs : Ix s0.at_) (h64 : in64 s0) :
    Calls Try.prog 56 #[bestFn g gd] w (fun e w' => e = .returned (.tuple #[]) ∧ Sst g gd A c gt L d ((allL 10000).foldl (bstS d ring) s0) w' ∧ Onl g w w') := by
  have KB := hid (fun W x s (S : Sst g gd A c gt L d s W) (hx : Ix x) (hs : Ix s.at_) (h64 : in64 s) => best_any g gd gt c A L d ring x s W S dl dw hT hx hs.1 h64)
  have LS := hid S.lt
  have Z0 := hid (IB.new w 29 [0, 0, 0, 0])
  have S0 := hid (S.alloc (.cells (agi [0, 0, 0, 0]) 29))
  have O0 := hid (Onl.of_below (g := g) (by have := S.lt; omega) ((Below.refl w.heap.size w).alloc (Nat.le_refl _) (.cells (agi [0, 0, 0, 0]) 29)))
  have HS := hid hs
  have H64 := hid h64
  clear S dl dw hT hs h64
  unfold bestFn
  go_enter Try.func56, Try.ntmps56
  go_wp2
  rw [show agi [0, 0, 0, 0] = #[.int .i64 0, .int .i64 0, .int .i64 0, .int .i64 0] from rfl] at Z0 S0 O0
  generalize w.alloc (.cells #[.int .i64 0, .int .i64 0, .int .i64 0, .int .i64 0] 29) = w0 at Z0 S0 O0 ⊢
  go_loopw [5] (fun iv wr => ∃ (n : Nat) (xs : List Int), n ≤ 10000 ∧ iv = .int .i64 n ∧ Hid (xs.length = 4) ∧ Hid (IB wr w.heap.size 29 xs) ∧ Hid (Sst g gd A c gt L d ((allL n).foldl (bstS d ring) s0) wr) ∧ Hid (Onl g w wr)) (fun iv _ => 10000 - (intOf iv).toNat)
  case atStart => exact ⟨0, [0, 0, 0, 0], by omega, rfl, hid rfl, Z0, S0, O0⟩
  case round =>
    clear Z0 S0 O0
    obtain ⟨n, xs, hn, rfl, HX, HZ, HSt, HO⟩ := hrel
    obtain ⟨wo, rfl⟩ : ∃ wo : World, wo = wr := ⟨_, rfl⟩
    by_cases hlt : n < 10000
    · have hdec : decide ((n : Int) < 10000) = true := by simp; omega
      go_wp2
      go_loopw [3, 8] (fun mv tv wr => ∃ (t : Nat) (xs : List Int), t ≤ 4 ∧ tv = .int .i64 t ∧ mv = .int .i64 ((n / 10 ^ t : Nat) : Int) ∧ Hid (xs.length = 4) ∧ Hid (∀ j, j < 4 → 4 ≤ j + t → xs.getD j 0 = dig n j) ∧ Hid (IB wr w.heap.size 29 xs) ∧ Hid (Sst g gd A c gt L d ((allL n).foldl (bstS d ring) s0) wr) ∧ Hid (Onl g w wr)) (fun _ tv _ => 4 - (intOf tv).toNat)
      case atStart => exact ⟨0, xs, by omega, rfl, by simp, HX, hid (fun j h1 h2 => by omega), HZ, HSt, HO⟩
      case round =>
        clear HX HZ HSt HO
        obtain ⟨t, xs, ht, rfl, rfl, HX, HD, HZ, HSt, HO⟩ := hrel
        by_cases hlt4 : t < 4
        · obtain ⟨q, hq⟩ : ∃ q, q = 3 - t := ⟨_, rfl⟩
          have hqi : (3 : Int) - (t : Nat) = (q : Nat) := by omega
          have cq := IB.cell HZ.out q (by rw [HX.out]; omega)
          have fq := Blk.frozen HZ.out q
          obtain ⟨m, hm⟩ : ∃ m, m = n / 10 ^ t := ⟨_, rfl⟩
          have NM := hid (show n / 10 ^ (t + 1) = m / 10 by rw [hm, Nat.pow_succ, ← Nat.div_div_eq_div_mul])
          have hm4 : m ≤ 10000 := by rw [hm]; exact Nat.le_trans (Nat.div_le_self _ _) hn
          have DM := hid (show ((m % 10 : Nat) : Int) = dig n q by rw [hm, hq]; exact dig_step n t hlt4)
          have ND := hid (show ∀ j, j < 4 → 4 ≤ j + (t + 1) → (xs.set q ((m % 10 : Nat) : Int)).getD j 0 = dig n j from fun j h1 h2 => by
            by_cases e : q = j
            · subst e
              rw [get_set_same _ _ _ (by rw [HX.out]; omega)]
              exact DM.out
            · rw [get_set_other _ _ e]
              exact HD.out j h1 (by omega))
          have NX := hid (show (xs.set q ((m % 10 : Nat) : Int)).length = 4 by rw [List.length_set]; exact HX.out)
          have NZ := hid (IB.set_ HZ.out q ((m % 10 : Nat) : Int))
          have NS := hid (HSt.out.setFar (p := ⟨w.heap.size, q, none⟩) (by show g + 5 ≤ w.heap.size; exact LS.out) (.int .i64 ((m % 10 : Nat) : Int)))
          have NO := hid (show Onl g w (wr.setCell ⟨w.heap.size, q, none⟩ (.int .i64 ((m % 10 : Nat) : Int))) from ⟨HO.out.b.setCell (by show g ≤ w.heap.size; have := LS.out; omega) _, fun j k1 k2 => (Below.heap_setCell wr _ _ j (by show j ≠ w.heap.size; omega)).trans (HO.out.keep j k1 k2)⟩)
          rw [← hm]
          have e1 : (m : Int).tmod 10 = ((m % 10 : Nat) : Int) := rfl
          have e2 : (m : Int).tdiv 10 = ((m / 10 : Nat) : Int) := rfl
          have q0 : (0 : Int) ≤ q := by omega
          have q4 : (q : Int) < 4 := by omega
          have HQ := hid hq
          have HM := hid hm
          have hd4 : decide ((t : Int) < 4) = true := by simp; omega
          clear hq hm
          go_wp2
          go_roundw
          case rel => exact ⟨t + 1, _, by omega, by go_num, by rw [NM.out]; rfl, NX, ND, NZ, NS, NO⟩
          case measure => simp [intOf] <;> omega
        · obtain rfl : t = 4 := by omega
          have XA := hid (digs_all hlt HX.out (fun j h1 h2 => HD.out j h1 h2))
          have IX := hid (allX_ix hlt)
          have KB1 := hid (KB.out wr xs ((allL n).foldl (bstS d ring) s0) HSt.out (by rw [XA.out]; exact IX.out) (bestL_ix HS.out (allL_ix (by omega))) (bestL_64 H64.out))
          have NF := hid (show (allL (n + 1)).foldl (bstS d ring) s0 = bstS d ring ((allL n).foldl (bstS d ring) s0) xs by rw [allL_snoc, List.foldl_append, XA.out]; rfl)
          have LZ := hid (show w.heap.size < wr.heap.size from Blk.lt HZ.out)
          generalize (allL n).foldl (bstS d ring) s0 = sn at *
          go_wp2_with (refine wpList_loadI rfl 29 (.tmp 2) rfl _ 29 xs 4 _ rfl HZ.out Try.underlying29 rfl size4i HX.out ?_)
          refine KB1.out.mono ?_
          rintro e w1 ⟨rfl, hS, hO⟩
          have N1 := hid (show Sst g gd A c gt L d ((allL (n + 1)).foldl (bstS d ring) s0) w1 by rw [NF.out]; exact hS)
          have N2 := hid (HO.out.trans hO)
          have N3 := hid (show IB w1 w.heap.size 29 xs from hO.blk HZ.out (.inr LS.out))
          clear hS hO KB1 HSt HO HZ
          go_wp2
          go_roundw
          case rel => exact ⟨n + 1, xs, by omega, by go_num, HX, N3, N1, N2⟩
          case measure => simp [intOf] <;> omega
    · obtain rfl : n = 10000 := by omega
      go_wp2
      go_end0
      exact ⟨rfl, HSt.out, HO.out⟩

/-- The number in a cell. -/
def cellN (w : World) (p : Addr) : Nat := match w.cell? p with
  | some v => (intOf v).toNat
  | none => 0
theorem cellN_of {w : World} {p : Addr} {x : Int} (h : w.cell? p = some (.int .i64 x)) : cellN w p = x.toNat := by unfold cellN; rw [h]; rfl
theorem fewX_len {now : List Int} (h : now.length = 4) (t p : Nat) : (fewX now t p).length = 4 := by unfold fewX; rw [List.length_set]; exact h
theorem fewX_at {now : List Int} (h : now.length = 4) {t : Nat} (ht : t < 4) (p : Nat) : (fewX now t p).getD t 0 = p := by unfold fewX; rw [get_set_same _ _ _ (by omega)]
theorem fewX_set (now : List Int) (t p q : Nat) : (fewX now t p).set t (q : Int) = fewX now t q := by unfold fewX; rw [List.set_set]

set_option maxHeartbeats 4000000 in
theorem fewWalk_any (g gd gt gn gq c t : Nat) (A : Option Addr) (L d ring now : List Int) (s0 : Bst) (w : World) (S : Sst g gd A c gt L d s0 w) (dl : d.length = 40) (dw : W64 d) (hT : Tbl L ring 40 0) (hs : Ix s0.at_) (h64 : in64 s0)
    (hn : IB w gn 29 now) (hq : Blk w gq 3 #[.int .i64 (t : Nat)]) (ln : gn < g) (lq : gq < g) (hx : Ix now) (ht : t < 4) :
    Calls Try.prog 51 #[bestFn g gd, .pointer (some ⟨gn, 0, none⟩), .pointer (some ⟨gq, 0, none⟩)] w (fun e w' => e = .returned (.tuple #[]) ∧ Sst g gd A c gt L d ((fewL now t 10).foldl (bstS d ring) s0) w' ∧ Onl g w w') := by
  have KB := hid (fun W x s (S : Sst g gd A c gt L d s W) (hx : Ix x) (hs : Ix s.at_) (h64 : in64 s) => best_any g gd gt c A L d ring x s W S dl dw hT hx hs.1 h64)
  have LS := hid S.lt
  have HS := hid hs
  have H64 := hid h64
  have HX := hid hx
  have HN := hid hn
  have HQ := hid hq
  have S0 := hid S
  have KX := hid hx.1
  have LW := hid (show w.heap.size < (w.alloc (.cells (agi Z4) 29)).heap.size by simp)
  have Z0 := hid (show IB ((w.alloc (.cells (agi Z4) 29)).setRow w.heap.size (agi now)) w.heap.size 29 now from IB.setRow (IB.new w _ Z4) now)
  have S1 := hid ((S.alloc (.cells (agi Z4) 29)).rowFar (b := w.heap.size) S.lt (agi now))
  have O1 := hid (show Onl g w ((w.alloc (.cells (agi Z4) 29)).setRow w.heap.size (agi now)) from ⟨below_setRow ((Below.refl _ _).alloc (by have := S.lt; omega) _) (by have := S.lt; omega) _, fun j k1 k2 => (setRow_other _ _ j _ (by omega)).trans (Below.heap_alloc w _ j k2)⟩)
  obtain ⟨w1, hw1⟩ : ∃ w1, w1 = (w.alloc (.cells (agi Z4) 29)).setRow w.heap.size (agi now) := ⟨_, rfl⟩
  rw [← hw1] at Z0 S1 O1
  rw [show agi Z4 = #[.int .i64 0, .int .i64 0, .int .i64 0, .int .i64 0] from rfl] at hw1
  have HW1 := hid hw1
  have NQ := hid (show Blk w1 gq 3 #[.int .i64 (t : Nat)] from O1.out.blk hq (.inl lq))
  have cq : w1.cell? ⟨gq, 0, none⟩ = some (.int .i64 (t : Nat)) := Blk.cell NQ.out 0
  have ct := IB.cell Z0.out t (by rw [hx.1]; exact ht)
  have ft := Blk.frozen Z0.out t
  have t4 : (t : Int) < 4 := by omega
  have t0 : (0 : Int) ≤ t := by omega
  have HLQ := hid lq
  clear S dl dw hT hs h64 hx hn hq hw1
  unfold bestFn
  have Z2 := hid (show IB (w1.setCell ⟨w.heap.size, t, none⟩ (.int .i64 0)) w.heap.size 29 (fewX now t 0) from IB.set_ Z0.out t 0)
  have S2 := hid (S1.out.setFar (p := ⟨w.heap.size, t, none⟩) (by show g + 5 ≤ w.heap.size; exact LS.out) (.int .i64 0))
  have O2 := hid (show Onl g w (w1.setCell ⟨w.heap.size, t, none⟩ (.int .i64 0)) from ⟨O1.out.b.setCell (by show g ≤ w.heap.size; have := LS.out; omega) _, fun j k1 k2 => (Below.heap_setCell w1 _ _ j (by show j ≠ w.heap.size; omega)).trans (O1.out.keep j k1 k2)⟩)
  go_enter Try.func51, Try.ntmps51
  go_wp2_with (first
    | (refine wpList_loadI rfl 29 (.tmp 1) rfl _ 29 now 4 _ rfl HN.out Try.underlying29 rfl size4i KX.out ?_)
    | (refine wpList_storeI rfl 29 (.tmp 4) (.tmp 5) rfl _ 29 Z4 now 4 rfl rfl (IB.new w _ Z4) size4i rfl KX.out ?_; rw [← HW1.out]))
  generalize w1.setCell ⟨w.heap.size, t, none⟩ (.int .i64 0) = w2 at Z2 S2 O2 ⊢
  clear Z0 S1 O1 NQ cq ct ft S0
  go_loopw [] (fun wr => ∃ p : Nat, p ≤ 10 ∧ Hid (IB wr w.heap.size 29 (fewX now t p)) ∧ Hid (Sst g gd A c gt L d ((fewL now t p).foldl (bstS d ring) s0) wr) ∧ Hid (Onl g w wr)) (fun wr => 10 - cellN wr ⟨w.heap.size, t, none⟩)
  case atStart => exact ⟨0, by omega, Z2, S2, O2⟩
  case round =>
    clear Z2 S2 O2
    obtain ⟨p, hp, HZ, HSt, HO⟩ := hrel
    have NQ := hid (show Blk wr gq 3 #[.int .i64 (t : Nat)] from HO.out.blk HQ.out (.inl HLQ.out))
    have cq : wr.cell? ⟨gq, 0, none⟩ = some (.int .i64 (t : Nat)) := Blk.cell NQ.out 0
    have ct := IB.cell HZ.out t (by rw [fewX_len KX.out]; exact ht)
    rw [fewX_at KX.out ht] at ct
    have ft := Blk.frozen HZ.out t
    have MW := hid (cellN_of ct)
    by_cases hlt : p < 10
    · have KB1 := hid (KB.out wr (fewX now t p) ((fewL now t p).foldl (bstS d ring) s0) HSt.out (fewX_ix HX.out hlt) (bestL_ix HS.out (fewL_ix HX.out t (by omega))) (bestL_64 H64.out))
      have NF := hid (show (fewL now t (p + 1)).foldl (bstS d ring) s0 = bstS d ring ((fewL now t p).foldl (bstS d ring) s0) (fewX now t p) by rw [fewL_snoc, List.foldl_append]; rfl)
      have XL := hid (fewX_len KX.out t p)
      have XS := hid (fewX_set now t p (p + 1))
      have XA := hid (fewX_at KX.out ht p)
      generalize (fewL now t p).foldl (bstS d ring) s0 = sn at *
      go_wp2_with (refine wpList_loadI rfl 29 (.tmp 4) rfl _ 29 (fewX now t p) 4 _ rfl HZ.out Try.underlying29 rfl size4i XL.out ?_)
      refine KB1.out.mono ?_
      rintro e w3 ⟨rfl, hS, hO⟩
      have N1 := hid (show Sst g gd A c gt L d ((fewL now t (p + 1)).foldl (bstS d ring) s0) w3 by rw [NF.out]; exact hS)
      have N2 := hid (HO.out.trans hO)
      have N3 := hid (show IB w3 w.heap.size 29 (fewX now t p) from hO.blk HZ.out (.inr LS.out))
      have N4 := hid (show Blk w3 gq 3 #[.int .i64 (t : Nat)] from hO.blk NQ.out (.inl HLQ.out))
      clear hS hO KB1 HSt HO HZ cq ct ft NQ
      have cq : w3.cell? ⟨gq, 0, none⟩ = some (.int .i64 (t : Nat)) := Blk.cell N4.out 0
      have ct := IB.cell N3.out t (by rw [XL.out]; exact ht)
      rw [XA.out] at ct
      have ft := Blk.frozen N3.out t
      have M1 := hid (show IB (w3.setCell ⟨w.heap.size, t, none⟩ (.int .i64 ((p : Int) + 1))) w.heap.size 29 (fewX now t (p + 1)) from by rw [← XS.out]; exact IB.set_ N3.out t ((p + 1 : Nat) : Int))
      have M2 := hid (N1.out.setFar (p := ⟨w.heap.size, t, none⟩) (by show g + 5 ≤ w.heap.size; exact LS.out) (.int .i64 ((p : Int) + 1)))
      have M3 := hid (show Onl g w (w3.setCell ⟨w.heap.size, t, none⟩ (.int .i64 ((p : Int) + 1))) from ⟨N2.out.b.setCell (by show g ≤ w.heap.size; have := LS.out; omega) _, fun j k1 k2 => (Below.heap_setCell w3 _ _ j (by show j ≠ w.heap.size; omega)).trans (N2.out.keep j k1 k2)⟩)
      have MC := hid (show cellN (w3.setCell ⟨w.heap.size, t, none⟩ (.int .i64 ((p : Int) + 1))) ⟨w.heap.size, t, none⟩ = p + 1 from by
        have h1 := IB.cell M1.out t (by rw [fewX_len KX.out]; exact ht)
        rw [fewX_at KX.out ht] at h1
        exact cellN_of h1)
      go_wp2
      go_roundw
      case rel => exact ⟨p + 1, by omega, M1, M2, M3⟩
      case measure => rw [MC.out, MW.out]; omega
    · obtain rfl : p = 10 := by omega
      go_wp2
      go_end0
      exact ⟨rfl, HSt.out, HO.out⟩
end Go.Proofs.Ytcfmipobgljbeaa
