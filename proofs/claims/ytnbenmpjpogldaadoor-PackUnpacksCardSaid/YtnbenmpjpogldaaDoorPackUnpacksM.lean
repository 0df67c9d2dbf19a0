/- The walks that the law PackUnpacks rests on, in one text. -/
import Derived.Test.YtnbenmpjpogldaaDoorUnD
import Derived.Test.YtnbenmpjpogldaaDoorRow
import Derived.Laws.CopyOwn
import Derived.Deep.RegionLaw
import Derived.Laws.StructEq
import Derived.Test.YtnbenmpjpogldaaDoorUnT
import Derived.BigRegion
import Derived.Test.YtnbenmpjpogldaaDoorPkD
import Derived.Test.YtnbenmpjpogldaaDoorBigSmall
import Derived.Test.YtnbenmpjpogldaaDoorBigShift
import Derived.Test.YtnbenmpjpogldaaDoorBigInt2
import Derived.Test.YtnbenmpjpogldaaDoorBigSum
import Derived.Test.YtnbenmpjpogldaaDoorPkH
import Derived.Test.YtnbenmpjpogldaaDoorDotM
/- Eight stores into a block of numbers. -/
namespace Go.Proofs.YtnbenmpjpogldaaDoor
set_option linter.unusedVariables false
set_option linter.unusedSimpArgs false
set_option maxRecDepth 100000
open Go.RowKit

theorem ib8_set {w : World} {g : Nat} {t : TypeId} {xs : List Int} (h : IB w g t xs) (k0 k1 k2 k3 k4 k5 k6 k7 : Nat) (a0 a1 a2 a3 a4 a5 a6 a7 : Int) : IB ((((((((w.setCell ⟨g, k0, none⟩ (.int .i64 a0)).setCell ⟨g, k1, none⟩ (.int .i64 a1)).setCell ⟨g, k2, none⟩ (.int .i64 a2)).setCell ⟨g, k3, none⟩ (.int .i64 a3)).setCell ⟨g, k4, none⟩ (.int .i64 a4)).setCell ⟨g, k5, none⟩ (.int .i64 a5)).setCell ⟨g, k6, none⟩ (.int .i64 a6)).setCell ⟨g, k7, none⟩ (.int .i64 a7)).drew g t ((((((((xs.set k0 a0).set k1 a1).set k2 a2).set k3 a3).set k4 a4).set k5 a5).set k6 a6).set k7 a7) := Blk.drew (IB.set_ (IB.set_ (IB.set_ (IB.set_ (IB.set_ (IB.set_ (IB.set_ (IB.set_ h k0 a0) k1 a1) k2 a2) k3 a3) k4 a4) k5 a5) k6 a6) k7 a7)
theorem blk8_far {w : World} {g k : Nat} {t : TypeId} {cs : Array Value} (h : Blk w k t cs) (hne : k ≠ g) (k0 k1 k2 k3 k4 k5 k6 k7 : Nat) (a0 a1 a2 a3 a4 a5 a6 a7 : Int) : Blk ((((((((w.setCell ⟨g, k0, none⟩ (.int .i64 a0)).setCell ⟨g, k1, none⟩ (.int .i64 a1)).setCell ⟨g, k2, none⟩ (.int .i64 a2)).setCell ⟨g, k3, none⟩ (.int .i64 a3)).setCell ⟨g, k4, none⟩ (.int .i64 a4)).setCell ⟨g, k5, none⟩ (.int .i64 a5)).setCell ⟨g, k6, none⟩ (.int .i64 a6)).setCell ⟨g, k7, none⟩ (.int .i64 a7)).drew k t cs := Blk.drew (Blk.far (Blk.far (Blk.far (Blk.far (Blk.far (Blk.far (Blk.far (Blk.far h (p := ⟨g, k0, none⟩) hne (.int .i64 a0)) (p := ⟨g, k1, none⟩) hne (.int .i64 a1)) (p := ⟨g, k2, none⟩) hne (.int .i64 a2)) (p := ⟨g, k3, none⟩) hne (.int .i64 a3)) (p := ⟨g, k4, none⟩) hne (.int .i64 a4)) (p := ⟨g, k5, none⟩) hne (.int .i64 a5)) (p := ⟨g, k6, none⟩) hne (.int .i64 a6)) (p := ⟨g, k7, none⟩) hne (.int .i64 a7))
theorem cell8_far (w : World) {g k j : Nat} (hne : k ≠ g) (k0 k1 k2 k3 k4 k5 k6 k7 : Nat) (a0 a1 a2 a3 a4 a5 a6 a7 : Int) : ((((((((w.setCell ⟨g, k0, none⟩ (.int .i64 a0)).setCell ⟨g, k1, none⟩ (.int .i64 a1)).setCell ⟨g, k2, none⟩ (.int .i64 a2)).setCell ⟨g, k3, none⟩ (.int .i64 a3)).setCell ⟨g, k4, none⟩ (.int .i64 a4)).setCell ⟨g, k5, none⟩ (.int .i64 a5)).setCell ⟨g, k6, none⟩ (.int .i64 a6)).setCell ⟨g, k7, none⟩ (.int .i64 a7)).drew.cell? ⟨k, j, none⟩ = w.cell? ⟨k, j, none⟩ := by
  have e : ∀ (W : World) (p : Addr), W.drew.cell? p = W.cell? p := fun _ _ => rfl
  have f : ∀ (W : World) (m : Nat) (a : Int), (W.setCell ⟨g, m, none⟩ (.int .i64 a)).cell? ⟨k, j, none⟩ = W.cell? ⟨k, j, none⟩ := fun W m a => cell_far W (.int .i64 a) (p := ⟨g, m, none⟩) (q := ⟨k, j, none⟩) hne
  rw [e, f, f, f, f, f, f, f, f]
theorem below8 {B : Nat} {a w : World} {g : Nat} (h : Below B a w) (hg : B ≤ g) (k0 k1 k2 k3 k4 k5 k6 k7 : Nat) (a0 a1 a2 a3 a4 a5 a6 a7 : Int) : Below B a ((((((((w.setCell ⟨g, k0, none⟩ (.int .i64 a0)).setCell ⟨g, k1, none⟩ (.int .i64 a1)).setCell ⟨g, k2, none⟩ (.int .i64 a2)).setCell ⟨g, k3, none⟩ (.int .i64 a3)).setCell ⟨g, k4, none⟩ (.int .i64 a4)).setCell ⟨g, k5, none⟩ (.int .i64 a5)).setCell ⟨g, k6, none⟩ (.int .i64 a6)).setCell ⟨g, k7, none⟩ (.int .i64 a7)).drew := Below.drew (Below.setCell (Below.setCell (Below.setCell (Below.setCell (Below.setCell (Below.setCell (Below.setCell (Below.setCell h (p := ⟨g, k0, none⟩) hg (.int .i64 a0)) (p := ⟨g, k1, none⟩) hg (.int .i64 a1)) (p := ⟨g, k2, none⟩) hg (.int .i64 a2)) (p := ⟨g, k3, none⟩) hg (.int .i64 a3)) (p := ⟨g, k4, none⟩) hg (.int .i64 a4)) (p := ⟨g, k5, none⟩) hg (.int .i64 a5)) (p := ⟨g, k6, none⟩) hg (.int .i64 a6)) (p := ⟨g, k7, none⟩) hg (.int .i64 a7))
end Go.Proofs.YtnbenmpjpogldaaDoor

/- copy into a row of numbers that is known whole, as a step of a drawing region; an answer that lies in a block. -/
namespace Go.Proofs.YtnbenmpjpogldaaDoor
set_option linter.unusedVariables false
set_option linter.unusedSimpArgs false
set_option maxRecDepth 100000
open Go.RowKit

theorem infoSz : (Tryd.prog.info? 3).map (·.size) = some 1 := by kernel_rfl

theorem step_copyI {ops : Array Oper} {o : Oper} {a : Act} {w : World} {K : Act → World → Prop} {Q : Exit → Act → World → Prop} {E : Prop} (hgd : o.guard = none) (d s : Operand) (dT sT : TypeId)
    (ho : o.op = .call { callee := .builtin .copy, args := #[d, s], argTypes := #[dT, sT] }) (hu : Tryd.prog.underlying dT = some (.slice 3))
    (g off dLen dCap : Nat) (ad : Addr) (sLen sCap : Nat) (hd : a.eval d = .slice (some ⟨g, off, none⟩) dLen dCap) (hs : a.eval s = .slice (some ad) sLen sCap)
    (t : TypeId) (xs ys zs : List Int) (hg : IB w g t xs) (hn : ys.length = Nat.min sLen dLen) (hsrc : ∀ j, j < ys.length → w.cell? (ad.add j) = some (.int .i64 (ys.getD j 0)))
    (hfit : off + ys.length ≤ xs.length) (hz : zs = xs.take off ++ ys ++ xs.drop (off + ys.length))
    (h : K (a.put o.dst (goInt ys.length)) (w.setRow g (agi zs))) :
    if Region.wanted o (yielded ops a.tmps) = true then Oper.wp Tryd.prog o a w K Q else E := by
  have hw : Region.wanted o (yielded ops a.tmps) = true := by simp [Region.wanted, hgd]
  rw [if_pos hw]
  have hrun := run_copy_row (P := Tryd.prog) w dT sT o.type 3 g off dLen dCap ad sLen sCap (agi xs) t (ints ys) hu infoSz hg (by rw [ints_len]; exact hn)
    (fun j v hv => by
      have hj : j < ys.length := by
        have := (List.getElem?_eq_some_iff.mp hv).1
        rwa [ints_len] at this
      rw [ints_get ys j hj] at hv
      rw [← hv]
      exact hsrc j hj) (by rw [ints_len, agi_size]; exact hfit) (ints_one ys)
  have e : ((agi xs).toList.take off ++ ints ys ++ (agi xs).toList.drop (off + (ints ys).length)).toArray = agi zs := by
    subst hz
    simp [agi, ints, List.map_take, List.map_drop]
  rw [e, ints_len] at hrun
  unfold Oper.wp
  simp [execOp, ho, resolve, invoke, builtin, hd, hs, hrun, Result.andThen]
  exact h

/-- The answer of a function whose one result lies in a block. -/
theorem results_row1 {fn : Func} {p : Tmp} {ty : TypeId} (h : fn.results = #[.cell p ty]) (tmps : Array Value) (w : World) (g : Nat) (t : TypeId) (xs : List Int) (d : TypeDesc) (n : Nat)
    (hp : tmps.getD p undef = .pointer (some ⟨g, 0, none⟩)) (hg : IB w g t xs) (hu : Tryd.prog.underlying ty = some d) (hd : isAggD d = true) (hi : (Tryd.prog.info? ty).map (·.size) = some n) (hl : xs.length = n) :
    (results fn tmps).run Tryd.prog w = .ok (.agg (agi xs)) w := by
  have hp' : tmps[p]?.getD undef = .pointer (some ⟨g, 0, none⟩) := by simpa using hp
  have hr := run_loadVar_row (P := Tryd.prog) w g t ty (agi xs) (0, 0) d hg hu (by cases d <;> first | rfl | (simp [isAggD] at hd)) (by rw [hi, agi_size, hl])
  simp [results, h, hp', asAddr, hr]
end Go.Proofs.YtnbenmpjpogldaaDoor

/- Two arrays of numbers that are the same. -/
namespace Go.Proofs.YtnbenmpjpogldaaDoor
set_option linter.unusedVariables false
set_option linter.unusedSimpArgs false
set_option maxRecDepth 100000
open Go.RowKit

theorem run_equalIn_agi (d : Nat) {t : TypeId} {n : Nat} (ht : Tryd.prog.underlying t = some (.array n 3)) (xs : List Int) (hl : xs.length = n) (w : World) :
    (Op.equalIn (d + 2) t (.agg (agi xs)) (.agg (agi xs))).run Tryd.prog w = .ok true w := by
  have hs : ∀ w, (sizeOf 3).run Tryd.prog w = .ok 1 w := fun w => by kernel_rfl
  have ha : ∀ w, (isAgg 3).run Tryd.prog w = .ok false w := fun w => by kernel_rfl
  rw [Op.equalIn]
  simp only [Sem.run_bind, run_underlying ht, Result.andThen_ok, hs, Std.Legacy.Range.forIn_eq_forIn_range', Std.Legacy.Range.size, Nat.sub_zero, Nat.add_sub_cancel, Nat.div_one]
  have hl2 : ∀ i ∈ List.range' 0 n 1, i < n := fun i hi => by simpa using (List.mem_range'_1.1 hi).2
  generalize List.range' 0 n 1 = l at hl2 ⊢
  induction l with
  | nil => simp
  | cons i l ih =>
    have hi : i < n := hl2 i (by simp)
    have px : (part 3 (agi xs) (i * 1)).run Tryd.prog w = .ok (.int .i64 (xs.getD i 0)) w := by
      have hg := agi_get xs i (by omega)
      simp [part, ha, hg]
    have pe : (Op.equalIn (d + 1) 3 (.int .i64 (xs.getD i 0)) (.int .i64 (xs.getD i 0))).run Tryd.prog w = .ok true w := by
      rw [run_equalIn_int w d 3 .i64 .i64 _ _ Tryd.underlying3]
      simp
    simp only [List.forIn_cons, Sem.run_bind, px, pe, Result.andThen_ok]
    simp only [Bool.not_true, Bool.false_eq_true, if_false, Sem.run_pure, Result.andThen_ok]
    exact ih fun j hj => hl2 j (by simp [hj])

theorem run_eql_agi {t : TypeId} {n : Nat} (ht : Tryd.prog.underlying t = some (.array n 3)) (xs : List Int) (hl : xs.length = n) (w : World) :
    (binOp .eql t (.agg (agi xs)) (.agg (agi xs))).run Tryd.prog w = .ok (.bool true) w := by
  rw [run_eql_struct, run_equalIn_agi 9998 ht xs hl w]
  rfl

/-! An array laid into a new block. -/
theorem Blk.stored {w : World} {g : Nat} {t : TypeId} {cs c2 : Array Value} (h : Blk w g t cs) (o : Obj) : Blk ((w.alloc o).setRow w.heap.size c2) g t cs :=
  Blk.rowFar (Blk.alloc h o) (by have := Blk.lt h; omega)
theorem IB.stored (w : World) (t : TypeId) (zs ys : List Int) : IB ((w.alloc (.cells (agi zs) t)).setRow w.heap.size (agi ys)) w.heap.size t ys := (IB.new w t zs).setRow ys
theorem below_stored (w : World) (o : Obj) (c2 : Array Value) : Below w.heap.size w ((w.alloc o).setRow w.heap.size c2) :=
  below_setRow ((Below.refl _ w).alloc (Nat.le_refl _) o) (Nat.le_refl _) c2
end Go.Proofs.YtnbenmpjpogldaaDoor

/- The walk of the reference's Unpack. -/
namespace Go.Proofs.YtnbenmpjpogldaaDoor
set_option linter.unusedVariables false
set_option linter.unusedSimpArgs false
set_option maxRecDepth 100000
open Go.RowKit

theorem mod_div_pow (V L n : Nat) (h : n ≤ L) : V % 2 ^ L / 2 ^ (L - n) = V >>> (L - n) % 2 ^ n := by
  apply Nat.eq_of_testBit_eq
  intro q
  rw [Nat.testBit_div_two_pow, Nat.testBit_mod_two_pow, Nat.testBit_mod_two_pow, Nat.testBit_shiftRight, Nat.add_comm (L - n) q]
  by_cases hq : q < n
  · have h1 : q + (L - n) < L := by omega
    simp [hq, h1]
  · have h1 : ¬ q + (L - n) < L := by omega
    simp [hq, h1]
theorem mod_mod_pow (V L n : Nat) : V % 2 ^ L % 2 ^ (L - n) = V % 2 ^ (L - n) := Nat.mod_mod_of_dvd _ (Nat.pow_dvd_pow 2 (by omega))
theorem gt_of_mod (V a n : Nat) (h : a + n ≤ 112) : V % 2 ^ (112 - a) / 2 ^ (112 - a - n) = gt V a n := by
  unfold gt
  exact mod_div_pow V (112 - a) n (by omega)
theorem uL_snoc (V : Nat) {i : Nat} (hi : i < 25) : (uL V 25).take i ++ [((uF V i : Nat) : Int)] = (uL V 25).take (i + 1) := by
  have h := take_snocP (l := uL V 25) (k := i) (by rw [uL_len]; exact hi)
  rw [← h]
  congr 2
  unfold uL
  rw [List.getD_eq_getElem?_getD, List.getElem?_map, List.getElem?_range hi]
  simp [hi]
theorem nb_take {xs : List Int} (k : Nat) (hk : k ≤ 14) : nb (xs.take 14) k = nb xs k := by
  induction k with
  | zero => rfl
  | succ k ih =>
    simp only [nb]
    rw [ih (by omega)]
    congr 2
    rw [List.getD_eq_getElem?_getD, List.getElem?_take, if_pos (by omega), ← List.getD_eq_getElem?_getD]
theorem Own.two {w w' : World} {base c g h : Nat} {A : Option Addr} {xs : List Int} (o : Own w base A c xs) (t : TwoP g h w w') (h1 : g < base) (h2 : h < base) : Own w' base A c xs := by
  refine ⟨o.1, ?_⟩
  rcases o.2 with hn | ⟨b, cap, cur, hv, hb, hg, rest⟩
  · exact .inl hn
  · exact .inr ⟨b, cap, cur, hv, hb, (t.keep b (heap_lt hg) (by omega) (by omega)).trans hg, rest⟩
theorem Tst.app {gl gx bx L X base c : Nat} {w w' : World} {A : Option Addr} {xs : List Int} (s : Tst gl gx bx L X w) (o : Own w base A c xs) (hb : gl < base) (hG : w.grownBy w' (A.map (·.block))) : Tst gl gx bx L X w' := by
  have h1 := s.n1
  have h2 := s.n2
  cases A with
  | none => exact s.below ⟨hG.os, hG.tape, hG.output, hG.size, fun k hk => hG.block k hk (by simp)⟩
  | some a =>
    rcases o.2 with ⟨hv, _⟩ | ⟨b, cap, cur, hv, hbb, hg, _⟩
    · cases hv
    · injection hv with hA _ _
      injection hA with hA
      subst hA
      have hG : w.grownBy w' (some b) := hG
      refine ⟨Blk.grown s.l hG (by simp; omega), Blk.grown s.x hG (by simp; omega), ?_, h1, h2⟩
      obtain ⟨v, k1, k2⟩ := s.I
      exact ⟨v, by rw [hG.block _ (heap_lt k1) (by simp; omega)]; exact k1, k2.keptT (show Blk w b 3 cur from hg) (by decide) hG⟩
theorem TwoP.app {g h base c : Nat} {w0 w w' : World} {A : Option Addr} {xs : List Int} (t : TwoP g h w0 w) (o : Own w base A c xs) (hb : w0.heap.size ≤ base) (hG : w.grownBy w' (A.map (·.block))) : TwoP g h w0 w' := by
  cases A with
  | none => exact t.trans (TwoP.of_below ⟨hG.os, hG.tape, hG.output, hG.size, fun k hk => hG.block k hk (by simp)⟩)
  | some a => exact t.grown hG (.inl (Nat.le_trans hb (o.lt a rfl).1))
set_option maxHeartbeats 4000000 in
theorem refUnpack_any (A : Option Addr) (c n : Nat) (xs : List Int) (w : World) (T : TabS w 0 widthL) (hr : Rb w w.heap.size A xs) (hn : xs.length = n) (hc : n ≤ c) (hx : Byts xs) :
    Calls Tryd.prog 13 #[.slice A n c] w (UnOut xs w) := by
  have hmf : ∀ (fn : Fn) (first cap : Array Value) (w : World), (Instr.makeFunc fn first cap).run Tryd.prog w = .ok (.func fn first cap) w := fun _ _ _ _ => rfl
  have hR := results_row2 (fn := Tryd.f13) (p := 2) (q := 3) (ty := 28) rfl
  have B0 := (Below.refl w.heap.size w).alloc (Nat.le_refl _) (.cells (agi Z25) 28)
  have R0 := IB.new w 28 Z25
  obtain ⟨V, hV⟩ : ∃ V, V = w.alloc (.cells (agi Z25) 28) := ⟨_, rfl⟩
  have SV := hid (show V.heap.size = w.heap.size + 1 by rw [hV]; simp)
  rw [← hV] at B0 R0
  have RX := hid R0
  have BX := hid B0
  have HR := hid (hr.below B0)
  have HX := hid hx
  have HT0 := hid T
  have HV := hid hV
  have HVL := hid (show w.alloc (.cells #[.int .i64 0, .int .i64 0, .int .i64 0, .int .i64 0, .int .i64 0, .int .i64 0, .int .i64 0, .int .i64 0, .int .i64 0, .int .i64 0, .int .i64 0, .int .i64 0, .int .i64 0, .int .i64 0, .int .i64 0, .int .i64 0, .int .i64 0, .int .i64 0, .int .i64 0, .int .i64 0, .int .i64 0, .int .i64 0, .int .i64 0, .int .i64 0, .int .i64 0] 28) = V from hV.symm)
  clear B0 R0 hr hx T hV HV
  by_cases h15 : n ≠ 15
  · have HE := hid (show unE xs = 1 from by unfold unE; rw [if_pos (by rw [hn]; exact h15)])
    have d0 : ((n : Int) != 15) = true := by simp; omega
    have d1 : ¬ (n : Int) = 15 := by omega
    go_enter Tryd.func13, Tryd.ntmps13
    go_wp2_with (first
      | (rw [HVL.out]; clear HVL)
      | (refine wpList_storeI rfl 28 (.tmp 2) (.tmp 20) rfl _ 28 Z25 Z25 25 rfl rfl RX.out size25d rfl rfl ?_))
    have HZ := hid (unL_bad (xs := xs) (by rw [HE.out]; decide))
    refine bodyPost_ret (v := _) (hR _ _ _ 28 Z25 _ 25 rfl (IB.setRow RX.out Z25) Tryd.underlying28 rfl size25d rfl) rfl ?_
    exact ⟨by rw [HE.out, HZ.out]; rfl, below_setRow BX.out (Nat.le_refl _) _⟩
  · obtain rfl : n = 15 := by omega
    have HN := hid hn
    obtain ⟨ad, rfl, had, c14⟩ := HR.out.at_ (k := 14) (by rw [hn]; omega)
    have c14 : V.cell? ⟨ad.block, ad.off + 14, none⟩ = some (.int .u8 (xs.getD 14 0)) := by rw [Addr.add_succ'] at c14; exact c14
    have RB := hid (show ∀ W, Below V.heap.size V W → Rb W W.heap.size (some ad) (xs.take 14) from fun W hb => ((HR.out.below (hb.mono (by have := SV.out; omega))).more (by have := hb.size; have := SV.out; omega)).take (by rw [hn]; omega))
    have KS := hid (refCheck_any (some ad) c 14 (xs.take 14) V.drew (RB.out V.drew ((Below.refl _ _).drew)) (by rw [List.length_take, hn]; rfl) (by omega) (HX.out.take 14))
    have hci : (14 : Int) ≤ (c : Int) := by omega
    have i14 : (14 : Int) < 15 := by omega
    have hEE : unE xs = if chk (xs.take 14) ≠ xs.getD 14 0 then 5 else if unV xs % 32 ≠ 0 then 3 else if pkTo (uL (unV xs) 25) 25 = false then 2 else if pkPar (uL (unV xs) 25) ≠ (unV xs / 32 % 2 : Nat) then 3 else 0 := by
      unfold unE
      rw [if_neg (by rw [hn]; simp)]
    clear hn h15
    go_enter Tryd.func13, Tryd.ntmps13
    go_wp2_with (rw [HVL.out]; clear HVL)
    by_cases hck : chk (xs.take 14) = xs.getD 14 0
    · rw [if_neg (by rw [hck]; simp)] at hEE
      have HE := hid hEE
      have d0 : (chk (xs.take 14) != xs.getD 14 0) = false := by rw [hck]; simp
      have d1 : decide (chk (xs.take 14) = xs.getD 14 0) = true := by simpa using hck
      clear hEE
      generalize chk (xs.take 14) = ck at *
      generalize xs.getD 14 0 = x14 at *
      clear hck
      go_region_held3 (fun w' => w'.cell? ⟨ad.block, ad.off + 14, none⟩ = some (.int .u8 x14)) (go_keep) (first
        | (go_at_call 22; (with_reducible refine KS.out.mono ?_); rintro e' w' ⟨rfl, rfl⟩))
      rename_i hHeldZ
      clear hHeldZ
      try simp only [Exit.then]
      have hZb := nb_take (xs := xs) 14 (Nat.le_refl _)
      have hVlt := nb_lt HX.out 14
      obtain ⟨W, hW⟩ : ∃ W, W = V.drew := ⟨_, rfl⟩
      have SW := hid (show W.heap.size = w.heap.size + 1 from by rw [hW]; exact SV.out)
      have RW := hid (show IB W w.heap.size 28 Z25 from by rw [hW]; exact RX.out)
      have BW := hid (show Below w.heap.size w W from by rw [hW]; exact BX.out.drew)
      have LV := hid (show Below V.heap.size V W from by rw [hW]; exact (Below.refl _ _).drew)
      rw [← hW]
      clear hW c14 KS
      have LA := (Below.refl W.heap.size W).alloc (Nat.le_refl _) (.cells #[.bool false, .slice none 0 0] 54)
      have KB := hid (show Calls Tryd.prog 24 #[.pointer (some ⟨W.heap.size, 0, none⟩), .slice (some ad) 14 c] (W.alloc (.cells #[.bool false, .slice none 0 0] 54)) (Gives (W.alloc (.cells #[.bool false, .slice none 0 0] 54)) W.heap.size ((unV xs : Nat) : Int)) from by
        have h := SetBytes_any (W.alloc (.cells #[.bool false, .slice none 0 0] 54)) W.heap.size (some ad) c (xs.take 14) (IntBlk.new W _ _) (RB.out _ (LV.out.trans (LA.mono LV.out.size))) (by rw [List.length_take, HN.out]; rfl) (HX.out.take 14)
        rw [hZb] at h
        exact h)
      have HVL := hid (show unV xs < 2 ^ 112 from hVlt)
      have LA := hid LA
      clear hZb hVlt
      go_wp2_with (go_at_call 24; (with_reducible refine KB.out.mono ?_); rintro e w3 ⟨rfl, hI, hG⟩; have I3 := hid hI; have L3 := hid (below_of_grownBy LA.out hG (Nat.le_refl _)); have Z3 := hid (show W.heap.size < w3.heap.size from hI.lt); clear hI hG)
      obtain ⟨W4, hW4⟩ : ∃ W4, W4 = w3.alloc (.cells #[.pointer (some ⟨W.heap.size, 0, none⟩)] 51) := ⟨_, rfl⟩
      have L4 : Below w3.heap.size w3 W4 := by rw [hW4]; exact (Below.refl _ _).alloc (Nat.le_refl _) _
      have X4 := hid (show Blk W4 w3.heap.size 51 #[.pointer (some ⟨W.heap.size, 0, none⟩)] from by rw [hW4]; exact Blk.new w3 _ _)
      have I4 := hid (I3.out.below L4 (Nat.le_refl _))
      have B4 := hid (BW.out.trans ((L3.out.trans (L4.mono L3.out.size)).mono BW.out.size))
      have R4 := hid (Blk.below' RW.out (L3.out.trans (L4.mono L3.out.size)))
      have T4 := hid (HT0.out.below B4.out)
      rw [← hW4]
      have KN := hid (show Calls Tryd.prog 15 #[.agg #[.int .i64 0, .int .i64 0, .int .i64 0, .int .i64 0, .int .i64 0, .int .i64 0, .int .i64 0, .int .i64 0, .int .i64 0, .int .i64 0, .int .i64 0, .int .i64 0, .int .i64 0, .int .i64 0, .int .i64 0, .int .i64 0, .int .i64 0, .int .i64 0, .int .i64 0, .int .i64 0, .int .i64 0, .int .i64 0, .int .i64 0, .int .i64 0, .int .i64 0]] W4 (NewN W4 Z25) from numbers_any Z25 W4 T4.out z25_len)
      clear L4 hW4 I3 L3 LA
      go_wp2_with (go_at_call 15; (with_reducible refine KN.out.mono ?_); rintro e w5 ⟨A1, c1, A2, c2, A3, c3, rfl, h1, h2, h3, hB⟩; have O2 := hid h2; have X5 := hid (Blk.below' X4.out hB); have I5 := hid (I4.out.below hB (Nat.le_refl _)); have R5 := hid (Blk.below' R4.out hB); have B5 := hid (B4.out.trans (hB.mono B4.out.size)); have Z5 := hid (show w3.heap.size < w5.heap.size from Nat.lt_of_lt_of_le (Blk.lt X4.out) hB.size); have Y4 := hid (Blk.lt X4.out); clear h1 h2 h3 hB)
      obtain ⟨g2, cap2, cur2, rfl, hg2, hg3, hrest⟩ := O2.out.form (by rw [pkB_len]; omega)
      clear hrest
      obtain ⟨W6, hW6⟩ : ∃ W6, W6 = w5.alloc (.cells #[.int .i64 112] 3) := ⟨_, rfl⟩
      have L6 : Below w5.heap.size w5 W6 := by rw [hW6]; exact (Below.refl _ _).alloc (Nat.le_refl _) _
      have Z6 := hid (show W6.heap.size = w5.heap.size + 1 by rw [hW6]; simp)
      have S6 := hid (show Tst w5.heap.size w3.heap.size W.heap.size 112 (unV xs) W6 from ⟨by rw [hW6]; exact Blk.new w5 _ _, Blk.below' X5.out L6, I5.out.below L6 (Nat.le_refl _), Z3.out, Z5.out⟩)
      have R6 := hid (Blk.below' R5.out L6)
      have B6 := hid (B5.out.trans (L6.mono B5.out.size))
      have O6 := hid (O2.out.below L6)
      have HG2 := hid (show w3.heap.size < g2 ∧ g2 < w5.heap.size from ⟨by have := Y4.out; omega, hg3⟩)
      have HW6 := hid hW6.symm
      clear L6 hW6 X5 I5 R5 B5 O2 X4 I4 R4 T4 hg2 hg3
      go_wp2_with (rw [HW6.out]; clear HW6)
      have S6 := hid (show Tst w5.heap.size w3.heap.size W.heap.size (112 - pkA 0) (unV xs % 2 ^ (112 - pkA 0)) W6 from by
        have e : unV xs % 2 ^ (112 - pkA 0) = unV xs := Nat.mod_eq_of_lt HVL.out
        rw [e]; exact S6.out)
      go_loopw [10, 42] (fun lv iv wr => ∃ (i : Nat) (A : Option Addr) (c : Nat), i ≤ 25 ∧ iv = .int .i64 i ∧ lv = .slice A i c ∧ Hid (Own wr W6.heap.size A c ((uL (unV xs) 25).take i)) ∧ Hid (Tst w5.heap.size w3.heap.size W.heap.size (112 - pkA i) (unV xs % 2 ^ (112 - pkA i)) wr) ∧ Hid (TwoP w5.heap.size W.heap.size W6 wr)) (fun _ iv _ => 25 - (intOf iv).toNat)
      case atStart => exact ⟨0, none, 0, by omega, rfl, rfl, hid Own.nil, S6, hid (TwoP.refl _ _ _)⟩
      case round =>
        clear S6
        obtain ⟨i, Al, cl, hi, rfl, rfl, HO, HS, HT⟩ := hrel
        by_cases hlt : i < 25
        · have k1 := HT.out.cell (O6.out.cell i (by rw [pkB_len]; exact hlt)) (show g2 ≠ w5.heap.size by have := HG2.out; omega) (show g2 ≠ W.heap.size by have := HG2.out; have := Z3.out; omega)
          obtain ⟨hn1, hn2, _⟩ := pkN_le hlt
          have ha := pkA_le (n := i + 1) (by omega)
          have SY := hid (show pkA (i + 1) = pkA i + pkN i from rfl)
          have SU := hid (uL_snoc (unV xs) hlt)
          have SF := hid (show uF (unV xs) i = gt (unV xs) (pkA i) (pkN i) from rfl)
          rw [SY.out] at ha
          rw [hn2] at k1
          have gl := gt_lt (unV xs) (pkA i) (pkN i)
          have gl6 : gt (unV xs) (pkA i) (pkN i) < 64 := Nat.lt_of_lt_of_le gl (show 2 ^ pkN i ≤ 2 ^ 6 from Nat.pow_le_pow_right (by decide) hn1)
          have hdv := gt_of_mod (unV xs) (pkA i) (pkN i) (by omega)
          have hmm := mod_mod_pow (unV xs) (112 - pkA i) (pkN i)
          have hXl : unV xs % 2 ^ (112 - pkA i) < 2 ^ 112 := Nat.lt_of_le_of_lt (Nat.mod_le _ _) HVL.out
          have KT := take_any w5.heap.size w3.heap.size W.heap.size (112 - pkA i) (unV xs % 2 ^ (112 - pkA i)) (pkN i) wr HS.out (by omega) (by omega) hXl (by rw [hdv]; exact gl6)
          rw [hdv, hmm, show 112 - pkA i - pkN i = 112 - pkA (i + 1) by rw [SY.out]; omega] at KT
          have KT := hid KT
          have HLn := hid (show ((uL (unV xs) 25).take i).length = i by rw [List.length_take, uL_len]; omega)
          rw [SF.out] at SU
          generalize gt (unV xs) (pkA i) (pkN i) = y at *
          generalize pkN i = n at *
          have i0 : (0 : Int) ≤ i := by omega
          have i25 : (i : Int) < 25 := by omega
          clear hn2 hdv hmm hXl gl gl6
          go_wp2_with (first
            | (go_at_call 25; (with_reducible refine KT.out.mono ?_); rintro e' w7 ⟨rfl, hS, hT⟩; have S7 := hid hS; have T7 := hid (HT.out.trans hT); have O7 := hid (HO.out.two hT (by have := Z6.out; omega) (by have := Z6.out; have := Z5.out; have := Z3.out; omega)); clear hS hT)
            | (at_builtin; refine wpList_pushN rfl (.tmp 46) (.tmp 50) rfl W6.heap.size Al cl i ((uL (unV xs) 25).take i) rfl HLn.out (O7.out.alloc _) ⟨w7.heap.size, 0, none⟩ (y : Nat) rfl (cell_new w7 _ _) (by omega) (by have := T7.out.size; rw [World.size_alloc]; omega) ?_; intro A8 c8 w8 hO hG hA; rw [SU.out] at hO; have S8 := hid ((S7.out.below ((Below.refl _ _).alloc (Nat.le_refl _) _)).app (O7.out.alloc _) (by have := Z6.out; omega) hG); have T8 := hid ((T7.out.trans (TwoP.of_below ((Below.refl _ _).alloc (Nat.le_refl _) _))).app (O7.out.alloc _) (Nat.le_refl _) hG); have O8 := hid hO; clear hO hG hA))
          go_roundw
          case rel => exact ⟨i + 1, A8, c8, by omega, by go_num, rfl, O8, S8, T8⟩
          case measure => simp [intOf] <;> omega
        · obtain rfl : i = 25 := by omega
          try rw [show ((25 : Nat) : Int) = 25 from rfl]
          rw [pkA_end] at HS
          have hX6 : unV xs % 2 ^ (112 - 106) < 2 ^ 112 := Nat.lt_of_le_of_lt (Nat.mod_le _ _) HVL.out
          have hdv := gt_of_mod (unV xs) 106 1 (by omega)
          have hmm := mod_mod_pow (unV xs) (112 - 106) 1
          have gl1 := gt_lt (unV xs) 106 1
          have KT := hid (show Calls Tryd.prog 25 #[.int .i64 1, .pointer (some ⟨w5.heap.size, 0, none⟩), .pointer (some ⟨w3.heap.size, 0, none⟩)] wr (fun e w' => e = .returned (.int .i64 (unV xs / 32 % 2 : Nat)) ∧ Tst w5.heap.size w3.heap.size W.heap.size 5 (unV xs % 32) w' ∧ TwoP w5.heap.size W.heap.size wr w') from by
            have h := take_any w5.heap.size w3.heap.size W.heap.size (112 - 106) (unV xs % 2 ^ (112 - 106)) 1 wr HS.out (by omega) (by omega) hX6 (by rw [hdv]; omega)
            rw [hdv, hmm, gt_par] at h
            exact h)
          have hT25 : (uL (unV xs) 25).take 25 = uL (unV xs) 25 := List.take_of_length_le (by rw [uL_len]; exact Nat.le_refl _)
          rw [hT25] at HO
          clear hX6 hdv hmm gl1 hT25
          generalize unV xs / 32 % 2 = pq at *
          go_wp2_with (go_at_call 25; (with_reducible refine KT.out.mono ?_); rintro e' w7 ⟨rfl, hS, hT⟩; have S7 := hid hS; have T7 := hid (HT.out.trans hT); have O7 := hid (HO.out.two hT (by have := Z6.out; omega) (by have := Z6.out; have := Z5.out; have := Z3.out; omega)); have c7 : w7.cell? ⟨w3.heap.size, 0, none⟩ = some (.pointer (some ⟨W.heap.size, 0, none⟩)) := Blk.cell hS.x 0; have KSG := hid (Sign_any w7 W.heap.size ((unV xs % 32 : Nat) : Int) hS.I); clear hS hT)
          have R7 := hid (T7.out.blk R6.out (by have := Z5.out; have := Z3.out; have := SW.out; omega) (by have := SW.out; omega))
          have B7 := hid (B6.out.trans (T7.out.below (B := w.heap.size) B6.out.size (by have := Z5.out; have := Z3.out; have := SW.out; omega) (by have := SW.out; omega)))
          clear HO HS HT KT O6
          by_cases h0 : unV xs % 32 = 0
          · have KSG := hid (show Calls Tryd.prog 29 #[.pointer (some ⟨W.heap.size, 0, none⟩)] w7 (fun e w' => e = .returned (.int .i64 0) ∧ w7 = w') from by
              have h := KSG.out
              rw [h0] at h
              exact h)
            have HE1 := HE.out
            rw [if_neg (by rw [h0]; simp)] at HE1
            have HEE := hid HE1
            clear HE1 h0
            obtain ⟨t0, t1, t2, t3, t4, t5, t6, t7, t8, t9, t10, t11, t12, t13, t14, t15, t16, t17, t18, t19, t20, t21, t22, t23, t24, hL⟩ := list25 (uL_len (unV xs) 25)
            have HLL := hid hL
            rw [hL] at O7
            clear hL
            obtain ⟨g3, cap3, cur3, rfl, hg3b, hg3l, hr3⟩ := O7.out.form (by simp)
            clear hr3
            have k0 : w7.cell? ⟨g3, 0, none⟩ = some (.int .i64 t0) := O7.out.cell 0 (by simp)
            have hcl := O7.out.cap.1
            simp only [List.length_cons, List.length_nil] at hcl
            obtain ⟨W8, hW8⟩ : ∃ W8, W8 = (w7.alloc (.cells (agi Z25) 28)).setRow w7.heap.size (agi [t0, 0, 0, 0, 0, 0, 0, 0, 0, 0, 0, 0, 0, 0, 0, 0, 0, 0, 0, 0, 0, 0, 0, 0, 0]) := ⟨_, rfl⟩
            have L8 : Below w7.heap.size w7 W8 := by rw [hW8]; exact below_stored w7 (.cells (agi Z25) 28) _
            have P8 := hid (show IB W8 w7.heap.size 28 [t0, 0, 0, 0, 0, 0, 0, 0, 0, 0, 0, 0, 0, 0, 0, 0, 0, 0, 0, 0, 0, 0, 0, 0, 0] from by rw [hW8]; exact IB.stored w7 28 Z25 [t0, 0, 0, 0, 0, 0, 0, 0, 0, 0, 0, 0, 0, 0, 0, 0, 0, 0, 0, 0, 0, 0, 0, 0, 0])
            have R8 := hid (Blk.below' R7.out L8)
            have B8 := hid (B7.out.trans (L8.mono B7.out.size))
            have O8 := hid (O7.out.below L8)
            have G8 := hid (show g3 < w7.heap.size from hg3l)
            have HW8 := hid hW8.symm
            clear L8 hW8
            go_wp2_with (first
              | (go_at_call 29; (with_reducible refine KSG.out.mono ?_); rintro e' w' ⟨rfl, rfl⟩)
              | (refine wpList_storeI rfl 28 (.tmp 14) (.tmp 62) rfl _ 28 Z25 [t0, 0, 0, 0, 0, 0, 0, 0, 0, 0, 0, 0, 0, 0, 0, 0, 0, 0, 0, 0, 0, 0, 0, 0, 0] 25 rfl rfl (IB.new w7 28 Z25) size25d rfl rfl ?_; rw [show (w7.alloc (.cells #[.int .i64 0, .int .i64 0, .int .i64 0, .int .i64 0, .int .i64 0, .int .i64 0, .int .i64 0, .int .i64 0, .int .i64 0, .int .i64 0, .int .i64 0, .int .i64 0, .int .i64 0, .int .i64 0, .int .i64 0, .int .i64 0, .int .i64 0, .int .i64 0, .int .i64 0, .int .i64 0, .int .i64 0, .int .i64 0, .int .i64 0, .int .i64 0, .int .i64 0] 28)).setRow w7.heap.size (agi [t0, 0, 0, 0, 0, 0, 0, 0, 0, 0, 0, 0, 0, 0, 0, 0, 0, 0, 0, 0, 0, 0, 0, 0, 0]) = W8 from HW8.out]; clear HW8))
            clear k0
            obtain ⟨gp, hgp⟩ : ∃ gp, gp = w7.heap.size := ⟨_, rfl⟩
            have GP := hid (show W6.heap.size ≤ w7.heap.size from T7.out.size)
            rw [← hgp] at P8 G8 GP ⊢
            clear hgp
            have hc1 : ¬ cl = 1 := by omega
            have hc2 : (9 : Int) ≤ (cl : Int) := by omega
            have q8 := hid (show ∀ j, j < 8 → W8.drew.cell? ((⟨g3, 1, none⟩ : Addr).add j) = some (.int .i64 ([t1, t2, t3, t4, t5, t6, t7, t8].getD j 0)) from fun j hj => by
              rw [Addr.add_lit]
              have e := O8.out.cell (1 + j) (by simp; omega)
              have : j = 0 ∨ j = 1 ∨ j = 2 ∨ j = 3 ∨ j = 4 ∨ j = 5 ∨ j = 6 ∨ j = 7 := by omega
              rcases this with rfl | rfl | rfl | rfl | rfl | rfl | rfl | rfl <;> exact e)
            go_region_held3 (fun _ => True) (trivial) (first
              | (refine step_copyI rfl (.tmp 64) (.tmp 66) 44 44 rfl Tryd.underlying44 gp 1 8 8 ⟨g3, 1, none⟩ 8 (cl - 1) rfl rfl 28 [t0, 0, 0, 0, 0, 0, 0, 0, 0, 0, 0, 0, 0, 0, 0, 0, 0, 0, 0, 0, 0, 0, 0, 0, 0] [t1, t2, t3, t4, t5, t6, t7, t8] [t0, t1, t2, t3, t4, t5, t6, t7, t8, 0, 0, 0, 0, 0, 0, 0, 0, 0, 0, 0, 0, 0, 0, 0, 0] (Blk.drew P8.out) rfl (fun j hj => q8.out j hj) (by simp) rfl ?_))
            rename_i hHeldZ
            clear hHeldZ q8
            try simp only [Exit.then]
            rw [show goInt ((([t1, t2, t3, t4, t5, t6, t7, t8] : List Int).length : Nat) : Int) = Value.int .i64 8 from rfl]
            have nG : g3 ≠ gp := by have := G8.out; omega
            have hgpl : w.heap.size ≤ gp := by have := GP.out; have := SW.out; have := Z3.out; have := Z5.out; have := Z6.out; omega
            have nR : w.heap.size ≠ gp := by have := GP.out; have := SW.out; have := Z3.out; have := Z5.out; have := Z6.out; omega
            have C9 := hid (show ∀ j, j < 25 → (W8.drew.setRow gp (agi [t0, t1, t2, t3, t4, t5, t6, t7, t8, 0, 0, 0, 0, 0, 0, 0, 0, 0, 0, 0, 0, 0, 0, 0, 0])).cell? ⟨g3, j, none⟩ = some (.int .i64 ([t0, t1, t2, t3, t4, t5, t6, t7, t8, t9, t10, t11, t12, t13, t14, t15, t16, t17, t18, t19, t20, t21, t22, t23, t24].getD j 0)) from fun j hj => by
              have e := O8.out.cell j (by simpa using hj)
              unfold World.cell? at *
              rw [setRow_other _ _ _ _ nG]
              exact e)
            have P9 := hid (IB.setRow (Blk.drew P8.out) [t0, t1, t2, t3, t4, t5, t6, t7, t8, 0, 0, 0, 0, 0, 0, 0, 0, 0, 0, 0, 0, 0, 0, 0, 0])
            have R9 := hid (Blk.rowFar (c2 := agi [t0, t1, t2, t3, t4, t5, t6, t7, t8, 0, 0, 0, 0, 0, 0, 0, 0, 0, 0, 0, 0, 0, 0, 0, 0]) (Blk.drew R8.out) nR)
            have B9 := hid (below_setRow B8.out.drew (show w.heap.size ≤ gp by have := GP.out; have := SW.out; have := Z3.out; have := Z5.out; have := Z6.out; omega) (agi [t0, t1, t2, t3, t4, t5, t6, t7, t8, 0, 0, 0, 0, 0, 0, 0, 0, 0, 0, 0, 0, 0, 0, 0, 0]))
            obtain ⟨W9, hW9⟩ : ∃ W9, W9 = W8.drew.setRow gp (agi [t0, t1, t2, t3, t4, t5, t6, t7, t8, 0, 0, 0, 0, 0, 0, 0, 0, 0, 0, 0, 0, 0, 0, 0, 0]) := ⟨_, rfl⟩
            rw [← hW9] at C9 P9 R9 B9 ⊢
            clear hW9 P8 R8 B8 O8
            obtain ⟨pl, hpl⟩ : ∃ pl : Nat → List Int, pl = fun s => if s = 0 then [t0, t1, t2, t3, t4, t5, t6, t7, t8, 0, 0, 0, 0, 0, 0, 0, 0, 0, 0, 0, 0, 0, 0, 0, 0] else if s = 1 then [t0, t1, t2, t3, t4, t5, t6, t7, t8, t9, t10, t11, t12, t13, t14, t15, t16, 0, 0, 0, 0, 0, 0, 0, 0] else [t0, t1, t2, t3, t4, t5, t6, t7, t8, t9, t10, t11, t12, t13, t14, t15, t16, t17, t18, t19, t20, t21, t22, t23, t24] := ⟨_, rfl⟩
            have HPL := hid hpl
            have P9 := hid (show IB W9 gp 28 (pl 0) from by rw [hpl]; exact P9.out)
            clear hpl
            go_wp2
            go_loopw [15] (fun iv wr => ∃ s : Nat, s ≤ 2 ∧ iv = .int .i64 s ∧ Hid (IB wr gp 28 (pl s)) ∧ Hid (IB wr w.heap.size 28 Z25) ∧ Hid (∀ j, j < 25 → wr.cell? ⟨g3, j, none⟩ = some (.int .i64 ([t0, t1, t2, t3, t4, t5, t6, t7, t8, t9, t10, t11, t12, t13, t14, t15, t16, t17, t18, t19, t20, t21, t22, t23, t24].getD j 0))) ∧ Hid (Below w.heap.size w wr)) (fun iv _ => 2 - (intOf iv).toNat)
            case atStart => exact ⟨0, by omega, rfl, P9, R9, C9, B9⟩
            case round =>
              clear P9 R9 C9 B9
              obtain ⟨s, hs, rfl, HP, HRR, HC, HBB⟩ := hrel
              by_cases hlt : s < 2
              · obtain rfl | rfl : s = 0 ∨ s = 1 := by omega
                · try rw [show ((0 : Nat) : Int) = 0 from rfl]
                  have hP := HP.out
                  rw [HPL.out] at hP
                  have hP : IB wr gp 28 [t0, t1, t2, t3, t4, t5, t6, t7, t8, 0, 0, 0, 0, 0, 0, 0, 0, 0, 0, 0, 0, 0, 0, 0, 0] := hP
                  have k9 : wr.cell? ⟨g3, 9, none⟩ = some (.int .i64 t9) := HC.out 9 (by omega); have k10 : wr.cell? ⟨g3, 10, none⟩ = some (.int .i64 t10) := HC.out 10 (by omega); have k11 : wr.cell? ⟨g3, 11, none⟩ = some (.int .i64 t11) := HC.out 11 (by omega); have k12 : wr.cell? ⟨g3, 12, none⟩ = some (.int .i64 t12) := HC.out 12 (by omega); have k13 : wr.cell? ⟨g3, 13, none⟩ = some (.int .i64 t13) := HC.out 13 (by omega); have k14 : wr.cell? ⟨g3, 14, none⟩ = some (.int .i64 t14) := HC.out 14 (by omega); have k15 : wr.cell? ⟨g3, 15, none⟩ = some (.int .i64 t15) := HC.out 15 (by omega); have k16 : wr.cell? ⟨g3, 16, none⟩ = some (.int .i64 t16) := HC.out 16 (by omega)
                  have z9 : wr.cell? ⟨gp, 9, none⟩ = some (.int .i64 0) := IB.cell hP 9 (by simp); have f9 : wr.frozen? ⟨gp, 9, none⟩ = false := Blk.frozen hP 9; have z10 : wr.cell? ⟨gp, 10, none⟩ = some (.int .i64 0) := IB.cell hP 10 (by simp); have f10 : wr.frozen? ⟨gp, 10, none⟩ = false := Blk.frozen hP 10; have z11 : wr.cell? ⟨gp, 11, none⟩ = some (.int .i64 0) := IB.cell hP 11 (by simp); have f11 : wr.frozen? ⟨gp, 11, none⟩ = false := Blk.frozen hP 11; have z12 : wr.cell? ⟨gp, 12, none⟩ = some (.int .i64 0) := IB.cell hP 12 (by simp); have f12 : wr.frozen? ⟨gp, 12, none⟩ = false := Blk.frozen hP 12; have z13 : wr.cell? ⟨gp, 13, none⟩ = some (.int .i64 0) := IB.cell hP 13 (by simp); have f13 : wr.frozen? ⟨gp, 13, none⟩ = false := Blk.frozen hP 13; have z14 : wr.cell? ⟨gp, 14, none⟩ = some (.int .i64 0) := IB.cell hP 14 (by simp); have f14 : wr.frozen? ⟨gp, 14, none⟩ = false := Blk.frozen hP 14; have z15 : wr.cell? ⟨gp, 15, none⟩ = some (.int .i64 0) := IB.cell hP 15 (by simp); have f15 : wr.frozen? ⟨gp, 15, none⟩ = false := Blk.frozen hP 15; have z16 : wr.cell? ⟨gp, 16, none⟩ = some (.int .i64 0) := IB.cell hP 16 (by simp); have f16 : wr.frozen? ⟨gp, 16, none⟩ = false := Blk.frozen hP 16
                  have hc9 : ¬ cl = 9 := by omega
                  have nG2 : ¬ gp = g3 := fun h => nG h.symm
                  have PN := ib8_set hP 9 10 11 12 13 14 15 16 t9 t10 t11 t12 t13 t14 t15 t16
                  rw [show (((((((([t0, t1, t2, t3, t4, t5, t6, t7, t8, 0, 0, 0, 0, 0, 0, 0, 0, 0, 0, 0, 0, 0, 0, 0, 0].set 9 t9).set 10 t10).set 11 t11).set 12 t12).set 13 t13).set 14 t14).set 15 t15).set 16 t16) = [t0, t1, t2, t3, t4, t5, t6, t7, t8, t9, t10, t11, t12, t13, t14, t15, t16, 0, 0, 0, 0, 0, 0, 0, 0] from rfl] at PN
                  have PN := hid PN
                  have RN := hid (blk8_far HRR.out nR 9 10 11 12 13 14 15 16 t9 t10 t11 t12 t13 t14 t15 t16)
                  have CN := hid (fun j (hj : j < 25) => (cell8_far wr (j := j) nG 9 10 11 12 13 14 15 16 t9 t10 t11 t12 t13 t14 t15 t16).trans (HC.out j hj))
                  have BN := hid (below8 HBB.out hgpl 9 10 11 12 13 14 15 16 t9 t10 t11 t12 t13 t14 t15 t16)
                  have PN := hid (show IB ((((((((wr.setCell ⟨gp, 9, none⟩ (.int .i64 t9)).setCell ⟨gp, 10, none⟩ (.int .i64 t10)).setCell ⟨gp, 11, none⟩ (.int .i64 t11)).setCell ⟨gp, 12, none⟩ (.int .i64 t12)).setCell ⟨gp, 13, none⟩ (.int .i64 t13)).setCell ⟨gp, 14, none⟩ (.int .i64 t14)).setCell ⟨gp, 15, none⟩ (.int .i64 t15)).setCell ⟨gp, 16, none⟩ (.int .i64 t16)).drew gp 28 (pl 1) from by rw [HPL.out]; exact PN.out)
                  clear hP HE KSG RB HX HN HVL O7 S7 T7 R7 B7 HLL HC HBB HRR HP
                  go_wp2
                  go_region_held3 (fun w' => w'.cell? ⟨g3, 9, none⟩ = some (.int .i64 t9) ∧ w'.cell? ⟨g3, 10, none⟩ = some (.int .i64 t10) ∧ w'.cell? ⟨g3, 11, none⟩ = some (.int .i64 t11) ∧ w'.cell? ⟨g3, 12, none⟩ = some (.int .i64 t12) ∧ w'.cell? ⟨g3, 13, none⟩ = some (.int .i64 t13) ∧ w'.cell? ⟨g3, 14, none⟩ = some (.int .i64 t14) ∧ w'.cell? ⟨g3, 15, none⟩ = some (.int .i64 t15) ∧ w'.cell? ⟨g3, 16, none⟩ = some (.int .i64 t16)) (go_keep) (first
                    | fail)
                  rename_i hHeldZ
                  clear hHeldZ k9 z9 f9 k10 z10 f10 k11 z11 f11 k12 z12 f12 k13 z13 f13 k14 z14 f14 k15 z15 f15 k16 z16 f16
                  try simp only [Exit.then]
                  go_wp2
                  go_roundw
                  case rel => exact ⟨1, by omega, rfl, PN, RN, CN, BN⟩
                  case measure => simp [intOf] <;> omega
                · try rw [show ((1 : Nat) : Int) = 1 from rfl]
                  have hP := HP.out
                  rw [HPL.out] at hP
                  have hP : IB wr gp 28 [t0, t1, t2, t3, t4, t5, t6, t7, t8, t9, t10, t11, t12, t13, t14, t15, t16, 0, 0, 0, 0, 0, 0, 0, 0] := hP
                  have k17 : wr.cell? ⟨g3, 17, none⟩ = some (.int .i64 t17) := HC.out 17 (by omega); have k18 : wr.cell? ⟨g3, 18, none⟩ = some (.int .i64 t18) := HC.out 18 (by omega); have k19 : wr.cell? ⟨g3, 19, none⟩ = some (.int .i64 t19) := HC.out 19 (by omega); have k20 : wr.cell? ⟨g3, 20, none⟩ = some (.int .i64 t20) := HC.out 20 (by omega); have k21 : wr.cell? ⟨g3, 21, none⟩ = some (.int .i64 t21) := HC.out 21 (by omega); have k22 : wr.cell? ⟨g3, 22, none⟩ = some (.int .i64 t22) := HC.out 22 (by omega); have k23 : wr.cell? ⟨g3, 23, none⟩ = some (.int .i64 t23) := HC.out 23 (by omega); have k24 : wr.cell? ⟨g3, 24, none⟩ = some (.int .i64 t24) := HC.out 24 (by omega)
                  have z17 : wr.cell? ⟨gp, 17, none⟩ = some (.int .i64 0) := IB.cell hP 17 (by simp); have f17 : wr.frozen? ⟨gp, 17, none⟩ = false := Blk.frozen hP 17; have z18 : wr.cell? ⟨gp, 18, none⟩ = some (.int .i64 0) := IB.cell hP 18 (by simp); have f18 : wr.frozen? ⟨gp, 18, none⟩ = false := Blk.frozen hP 18; have z19 : wr.cell? ⟨gp, 19, none⟩ = some (.int .i64 0) := IB.cell hP 19 (by simp); have f19 : wr.frozen? ⟨gp, 19, none⟩ = false := Blk.frozen hP 19; have z20 : wr.cell? ⟨gp, 20, none⟩ = some (.int .i64 0) := IB.cell hP 20 (by simp); have f20 : wr.frozen? ⟨gp, 20, none⟩ = false := Blk.frozen hP 20; have z21 : wr.cell? ⟨gp, 21, none⟩ = some (.int .i64 0) := IB.cell hP 21 (by simp); have f21 : wr.frozen? ⟨gp, 21, none⟩ = false := Blk.frozen hP 21; have z22 : wr.cell? ⟨gp, 22, none⟩ = some (.int .i64 0) := IB.cell hP 22 (by simp); have f22 : wr.frozen? ⟨gp, 22, none⟩ = false := Blk.frozen hP 22; have z23 : wr.cell? ⟨gp, 23, none⟩ = some (.int .i64 0) := IB.cell hP 23 (by simp); have f23 : wr.frozen? ⟨gp, 23, none⟩ = false := Blk.frozen hP 23; have z24 : wr.cell? ⟨gp, 24, none⟩ = some (.int .i64 0) := IB.cell hP 24 (by simp); have f24 : wr.frozen? ⟨gp, 24, none⟩ = false := Blk.frozen hP 24
                  have hc9 : ¬ cl = 17 := by omega
                  have nG2 : ¬ gp = g3 := fun h => nG h.symm
                  have PN := ib8_set hP 17 18 19 20 21 22 23 24 t17 t18 t19 t20 t21 t22 t23 t24
                  rw [show (((((((([t0, t1, t2, t3, t4, t5, t6, t7, t8, t9, t10, t11, t12, t13, t14, t15, t16, 0, 0, 0, 0, 0, 0, 0, 0].set 17 t17).set 18 t18).set 19 t19).set 20 t20).set 21 t21).set 22 t22).set 23 t23).set 24 t24) = [t0, t1, t2, t3, t4, t5, t6, t7, t8, t9, t10, t11, t12, t13, t14, t15, t16, t17, t18, t19, t20, t21, t22, t23, t24] from rfl] at PN
                  have PN := hid PN
                  have RN := hid (blk8_far HRR.out nR 17 18 19 20 21 22 23 24 t17 t18 t19 t20 t21 t22 t23 t24)
                  have CN := hid (fun j (hj : j < 25) => (cell8_far wr (j := j) nG 17 18 19 20 21 22 23 24 t17 t18 t19 t20 t21 t22 t23 t24).trans (HC.out j hj))
                  have BN := hid (below8 HBB.out hgpl 17 18 19 20 21 22 23 24 t17 t18 t19 t20 t21 t22 t23 t24)
                  have PN := hid (show IB ((((((((wr.setCell ⟨gp, 17, none⟩ (.int .i64 t17)).setCell ⟨gp, 18, none⟩ (.int .i64 t18)).setCell ⟨gp, 19, none⟩ (.int .i64 t19)).setCell ⟨gp, 20, none⟩ (.int .i64 t20)).setCell ⟨gp, 21, none⟩ (.int .i64 t21)).setCell ⟨gp, 22, none⟩ (.int .i64 t22)).setCell ⟨gp, 23, none⟩ (.int .i64 t23)).setCell ⟨gp, 24, none⟩ (.int .i64 t24)).drew gp 28 (pl 2) from by rw [HPL.out]; exact PN.out)
                  clear hP HE KSG RB HX HN HVL O7 S7 T7 R7 B7 HLL HC HBB HRR HP
                  go_wp2
                  go_region_held3 (fun w' => w'.cell? ⟨g3, 17, none⟩ = some (.int .i64 t17) ∧ w'.cell? ⟨g3, 18, none⟩ = some (.int .i64 t18) ∧ w'.cell? ⟨g3, 19, none⟩ = some (.int .i64 t19) ∧ w'.cell? ⟨g3, 20, none⟩ = some (.int .i64 t20) ∧ w'.cell? ⟨g3, 21, none⟩ = some (.int .i64 t21) ∧ w'.cell? ⟨g3, 22, none⟩ = some (.int .i64 t22) ∧ w'.cell? ⟨g3, 23, none⟩ = some (.int .i64 t23) ∧ w'.cell? ⟨g3, 24, none⟩ = some (.int .i64 t24)) (go_keep) (first
                    | fail)
                  rename_i hHeldZ
                  clear hHeldZ k17 z17 f17 k18 z18 f18 k19 z19 f19 k20 z20 f20 k21 z21 f21 k22 z22 f22 k23 z23 f23 k24 z24 f24
                  try simp only [Exit.then]
                  go_wp2
                  go_roundw
                  case rel => exact ⟨2, by omega, rfl, PN, RN, CN, BN⟩
                  case measure => simp [intOf] <;> omega
              · obtain rfl : s = 2 := by omega
                have PF := hid (show IB wr gp 28 (uL (unV xs) 25) from by rw [HLL.out]; have h := HP.out; rw [HPL.out] at h; exact h)
                have TF := HT0.out.below HBB.out
                have KG := refGoodP_any (uL (unV xs) 25) wr TF (uL_len _ _)
                have KPP := hid (fun W => refParity_any (uL (unV xs) 25) W (uL_len _ _) (uL_64 _ _))
                have HE1 := HEE.out
                clear HP HC HPL HLL KSG RB O7 S7 T7 R7 B7 TF
                by_cases hg : pkTo (uL (unV xs) 25) 25 = true
                · rw [hg] at KG
                  rw [if_neg (by rw [hg]; simp)] at HE1
                  have KG := hid KG
                  by_cases hp : pkPar (uL (unV xs) 25) = (pq : Nat)
                  · have HEA := hid (show unE xs = 0 from by rw [HE1, if_neg (by rw [hp]; simp)])
                    have HZA := hid (show unL xs = uL (unV xs) 25 from by unfold unL; rw [if_pos HEA.out])
                    rw [hp] at KPP
                    clear HE1 HEE HE hg hp
                    go_wp2_with (first
                      | (refine wpList_loadI rfl 28 (.tmp 14) rfl _ 28 (uL (unV xs) 25) 25 _ rfl PF.out Tryd.underlying28 rfl size25d (uL_len _ _) ?_)
                      | (go_at_call 7; (with_reducible refine KG.out.mono ?_); rintro e' w8 ⟨rfl, hB⟩; have P8 := hid (Blk.below' PF.out hB); have R8 := hid (Blk.below' HRR.out hB); have B8 := hid (HBB.out.trans (hB.mono HBB.out.size)); clear hB)
                      | (refine wpList_loadI rfl 28 (.tmp 14) rfl _ 28 (uL (unV xs) 25) 25 _ rfl P8.out Tryd.underlying28 rfl size25d (uL_len _ _) ?_)
                      | (go_at_call 9; (with_reducible refine (KPP.out w8).mono ?_); rintro e' w9 ⟨rfl, hB⟩; have P9 := hid (Blk.below' P8.out hB); have R9 := hid (Blk.below' R8.out hB); have B9 := hid (B8.out.trans (hB.mono B8.out.size)); clear hB)
                      | (refine wpList_loadI rfl 28 (.tmp 14) rfl _ 28 (uL (unV xs) 25) 25 _ rfl P9.out Tryd.underlying28 rfl size25d (uL_len _ _) ?_)
                      | (refine wpList_storeI rfl 28 (.tmp 2) (.tmp 115) rfl _ 28 Z25 (uL (unV xs) 25) 25 rfl rfl R9.out size25d rfl (uL_len _ _) ?_))
                    refine bodyPost_ret (v := _) (hR _ _ _ 28 (uL (unV xs) 25) _ 25 rfl (IB.setRow R9.out (uL (unV xs) 25)) Tryd.underlying28 rfl size25d (uL_len _ _)) rfl ?_
                    exact ⟨by rw [HEA.out, HZA.out]; rfl, below_setRow B9.out (Nat.le_refl _) _⟩
                  · have HEA := hid (show unE xs = 3 from by rw [HE1, if_pos hp])
                    have HZA := hid (unL_bad (xs := xs) (by rw [HEA.out]; decide))
                    have hne : (((pq : Nat) : Int) != pkPar (uL (unV xs) 25)) = true := by rw [bne_iff_ne]; exact fun h => hp h.symm
                    have hne2 : ¬ ((pq : Nat) : Int) = pkPar (uL (unV xs) 25) := fun h => hp h.symm
                    clear HE1 HEE HE
                    generalize pkPar (uL (unV xs) 25) = pr at *
                    clear hg hp
                    go_wp2_with (first
                      | (refine wpList_loadI rfl 28 (.tmp 14) rfl _ 28 (uL (unV xs) 25) 25 _ rfl PF.out Tryd.underlying28 rfl size25d (uL_len _ _) ?_)
                      | (go_at_call 7; (with_reducible refine KG.out.mono ?_); rintro e' w8 ⟨rfl, hB⟩; have P8 := hid (Blk.below' PF.out hB); have R8 := hid (Blk.below' HRR.out hB); have B8 := hid (HBB.out.trans (hB.mono HBB.out.size)); clear hB)
                      | (refine wpList_loadI rfl 28 (.tmp 14) rfl _ 28 (uL (unV xs) 25) 25 _ rfl P8.out Tryd.underlying28 rfl size25d (uL_len _ _) ?_)
                      | (go_at_call 9; (with_reducible refine (KPP.out w8).mono ?_); rintro e' w9 ⟨rfl, hB⟩; have P9 := hid (Blk.below' P8.out hB); have R9 := hid (Blk.below' R8.out hB); have B9 := hid (B8.out.trans (hB.mono B8.out.size)); clear hB)
                      | (refine wpList_storeI rfl 28 (.tmp 2) (.tmp 114) rfl _ 28 Z25 Z25 25 rfl rfl R9.out size25d rfl rfl ?_))
                    refine bodyPost_ret (v := _) (hR _ _ _ 28 Z25 _ 25 rfl (IB.setRow R9.out Z25) Tryd.underlying28 rfl size25d rfl) rfl ?_
                    exact ⟨by rw [HEA.out, HZA.out]; rfl, below_setRow B9.out (Nat.le_refl _) _⟩
                · have hgf : pkTo (uL (unV xs) 25) 25 = false := by simpa using hg
                  rw [hgf] at KG
                  rw [if_pos hgf] at HE1
                  have KG := hid KG
                  have HEA := hid HE1
                  have HZA := hid (unL_bad (xs := xs) (by rw [HEA.out]; decide))
                  clear HE1 HEE HE hg hgf
                  go_wp2_with (first
                    | (refine wpList_loadI rfl 28 (.tmp 14) rfl _ 28 (uL (unV xs) 25) 25 _ rfl PF.out Tryd.underlying28 rfl size25d (uL_len _ _) ?_)
                    | (go_at_call 7; (with_reducible refine KG.out.mono ?_); rintro e' w8 ⟨rfl, hB⟩; have P8 := hid (Blk.below' PF.out hB); have R8 := hid (Blk.below' HRR.out hB); have B8 := hid (HBB.out.trans (hB.mono HBB.out.size)); clear hB)
                    | (refine wpList_storeI rfl 28 (.tmp 2) (.tmp 109) rfl _ 28 Z25 Z25 25 rfl rfl R8.out size25d rfl rfl ?_))
                  refine bodyPost_ret (v := _) (hR _ _ _ 28 Z25 _ 25 rfl (IB.setRow R8.out Z25) Tryd.underlying28 rfl size25d rfl) rfl ?_
                  exact ⟨by rw [HEA.out, HZA.out]; rfl, below_setRow B8.out (Nat.le_refl _) _⟩
          · have hs1 : ((unV xs % 32 : Nat) : Int).sign = 1 := Int.sign_eq_one_of_pos (by omega)
            rw [hs1] at KSG
            have HE2 := hid (show unE xs = 3 from by rw [HE.out, if_pos h0])
            have HZ2 := hid (unL_bad (xs := xs) (by rw [HE2.out]; decide))
            clear h0 hs1
            go_wp2_with (first
              | (go_at_call 29; (with_reducible refine KSG.out.mono ?_); rintro e' w' ⟨rfl, rfl⟩)
              | (refine wpList_storeI rfl 28 (.tmp 2) (.tmp 58) rfl _ 28 Z25 Z25 25 rfl rfl R7.out size25d rfl rfl ?_))
            refine bodyPost_ret (v := _) (hR _ _ _ 28 Z25 _ 25 rfl (IB.setRow R7.out Z25) Tryd.underlying28 rfl size25d rfl) rfl ?_
            exact ⟨by rw [HE2.out, HZ2.out]; rfl, below_setRow B7.out (Nat.le_refl _) _⟩
    · rw [if_pos hck] at hEE
      have HE := hid hEE
      have d0 : (chk (xs.take 14) != xs.getD 14 0) = true := by rw [bne_iff_ne]; exact hck
      clear hEE
      generalize chk (xs.take 14) = ck at *
      generalize xs.getD 14 0 = x14 at *
      go_region_held3 (fun w' => w'.cell? ⟨ad.block, ad.off + 14, none⟩ = some (.int .u8 x14)) (go_keep) (first
        | (go_at_call 22; (with_reducible refine KS.out.mono ?_); rintro e' w' ⟨rfl, rfl⟩))
      rename_i hHeldZ
      clear hHeldZ
      try simp only [Exit.then]
      have RY := hid (show IB V.drew w.heap.size 28 Z25 from RX.out)
      have BY := hid BX.out.drew
      have HZ := hid (unL_bad (xs := xs) (by rw [HE.out]; decide))
      go_wp2_with (refine wpList_storeI rfl 28 (.tmp 2) (.tmp 28) rfl _ 28 Z25 Z25 25 rfl rfl RY.out size25d rfl rfl ?_)
      refine bodyPost_ret (v := _) (hR _ _ _ 28 Z25 _ 25 rfl (IB.setRow RY.out Z25) Tryd.underlying28 rfl size25d rfl) rfl ?_
      exact ⟨by rw [HE.out, HZ.out]; rfl, below_setRow BY.out (Nat.le_refl _) _⟩
end Go.Proofs.YtnbenmpjpogldaaDoor

/- The walks of an Int's bytes. -/
namespace Go.Proofs.YtnbenmpjpogldaaDoor
set_option linter.unusedVariables false
set_option linter.unusedSimpArgs false
set_option maxRecDepth 100000
open Go.RowKit

theorem word_at {ws : List Nat} (hok : wok ws) {k : Nat} (hk : k < ws.length) : ws.getD k 0 = wv ws / 2 ^ (32 * k) % 2 ^ 32 := by
  have h1 := wv_drop ws hok k (by omega)
  have h2 : ws.drop k = ws.getD k 0 :: ws.drop (k + 1) := by
    rw [List.drop_eq_getElem_cons hk, List.getD_eq_getElem?_getD, List.getElem?_eq_getElem hk]
    rfl
  have h3 := wok_getD hok k
  rw [h2] at h1
  simp only [wv] at h1
  have e : (4294967296 : Nat) ^ k = 2 ^ (32 * k) := by rw [Nat.pow_mul]
  rw [← e, ← h1, show (2 : Nat) ^ 32 = 4294967296 from rfl]
  omega
/-- A byte of a word is a byte of the number. -/
theorem word_byte (X i : Nat) : X / 2 ^ (32 * (i / 4)) % 2 ^ 32 / 2 ^ (8 * (i % 4)) % 256 = digE X (8 * i) := by
  apply Nat.eq_of_testBit_eq
  intro q
  rw [digE_bit, show 256 = 2 ^ 8 from rfl, Nat.testBit_mod_two_pow, Nat.testBit_div_two_pow, Nat.testBit_mod_two_pow, Nat.testBit_div_two_pow]
  by_cases hq : q < 8
  · have h1 : q + 8 * (i % 4) < 32 := by omega
    have h2 : q + 8 * (i % 4) + 32 * (i / 4) = 8 * i + q := by omega
    rw [h2]
    simp [hq, h1]
  · simp [hq]
/-- The n bytes of a number, the least i of them laid. -/
def byN (X n i : Nat) : List Int := (List.range n).map (fun j => if n - 1 - j < i then (digE X (8 * (n - 1 - j)) : Int) else 0)
theorem byN_len (X n i : Nat) : (byN X n i).length = n := by simp [byN]
theorem byN_zero (X n : Nat) : byN X n 0 = List.replicate n 0 := by
  refine List.ext_getElem? fun j => ?_
  unfold byN
  by_cases hj : j < n
  · simp [hj]
  · simp [hj]
theorem byN_set (X n : Nat) {i : Nat} (hi : i < n) : (byN X n i).set (n - 1 - i) (digE X (8 * i) : Nat) = byN X n (i + 1) := by
  refine List.ext_getElem? fun j => ?_
  by_cases hj : j < n
  · rw [List.getElem?_set, byN_len]
    unfold byN
    simp only [List.getElem?_map, List.getElem?_range hj, Option.map_some]
    by_cases e : n - 1 - i = j
    · rw [if_pos e, if_pos (by omega), if_pos (by omega), show n - 1 - j = i by omega]
    · rw [if_neg e]
      congr 1
      by_cases h : n - 1 - j < i
      · rw [if_pos h, if_pos (by omega)]
      · rw [if_neg h, if_neg (by omega)]
  · rw [List.getElem?_eq_none (by rw [List.length_set, byN_len]; omega), List.getElem?_eq_none (by rw [byN_len]; omega)]
/-- All fourteen bytes: those of a shorter number stand at the end. -/
theorem byN_all {X n : Nat} (hn : n ≤ 14) (hX : X < 2 ^ (8 * n)) : List.replicate (14 - n) 0 ++ byN X n n = digL X := by
  refine List.ext_getElem? fun j => ?_
  by_cases hj : j < 14
  · rw [digL_get X hj]
    by_cases h : j < 14 - n
    · rw [List.getElem?_append_left (by simp; exact h), List.getElem?_replicate, if_pos h]
      have : X < 2 ^ (8 * (13 - j)) := Nat.lt_of_lt_of_le hX (Nat.pow_le_pow_right (by decide) (by omega))
      unfold digE
      rw [Nat.div_eq_of_lt this]
      rfl
    · rw [List.getElem?_append_right (by simp; omega), List.length_replicate]
      unfold byN
      have hr : j - (14 - n) < n := by omega
      simp only [List.getElem?_map, List.getElem?_range hr, Option.map_some]
      rw [if_pos (by omega), show n - 1 - (j - (14 - n)) = 13 - j by omega]
  · rw [List.getElem?_eq_none (by simp [byN_len]; omega), List.getElem?_eq_none (by rw [digL_len]; omega)]
theorem OwnB.set_ {w : World} {base c g : Nat} {xs : List Int} (h : OwnB w base (some ⟨g, 0, none⟩) c xs) (k : Nat) (x : Int) : OwnB (w.setCell ⟨g, k, none⟩ (.int .u8 x)) base (some ⟨g, 0, none⟩) c (xs.set k x) := by
  have h1 := World.ownsRow.stored (g := g) (cap := c) h k (.int .u8 x)
  unfold OwnB
  rw [List.length_set]
  have e : bts (xs.set k x) = (bts xs).set k (.int .u8 x) := by simp [bts, List.map_set]
  rw [e]; exact h1.1
theorem OwnB.cell {w : World} {base c g : Nat} {xs : List Int} (h : OwnB w base (some ⟨g, 0, none⟩) c xs) (k : Nat) (hk : k < xs.length) : w.cell? ⟨g, k, none⟩ = some (.int .u8 (xs.getD k 0)) := by
  have h1 := World.ownsRow.cellAt (g := g) (cap := c) h k (by omega)
  rw [h1]; exact bts_get xs k hk
theorem OwnB.frozen {w : World} {base c g : Nat} {xs : List Int} (h : OwnB w base (some ⟨g, 0, none⟩) c xs) (k : Nat) : w.frozen? ⟨g, k, none⟩ = false := World.ownsRow.frozenAt h k
/-- How many bytes a number has. -/
def byC (X : Nat) : Nat := (bitlen X + 7) / 8
theorem byC_lt (X : Nat) : X < 2 ^ (8 * byC X) := Nat.lt_of_lt_of_le (bitlen_lt X) (Nat.pow_le_pow_right (by decide) (by unfold byC; omega))
theorem byC_le {X : Nat} (h : X < 2 ^ 112) : byC X ≤ 14 := by
  have := bitlen_le_of_lt h
  unfold byC
  omega

set_option maxHeartbeats 4000000 in
theorem Bytes_any (w : World) (c X : Nat) (hc : IntAt w c (X : Nat)) (hX : X < 2 ^ 112) :
    Calls Tryd.prog 35 #[.pointer (some ⟨c, 0, none⟩)] w fun e w' => ∃ g, e = .returned (.slice (some ⟨g, 0, none⟩) (byC X) (byC X)) ∧ w.heap.size ≤ g ∧ OwnB w' w.heap.size (some ⟨g, 0, none⟩) (byC X) (byN X (byC X) (byC X)) ∧ Below w.heap.size w w' := by
  have hs : Sm (X : Int).natAbs := sm_of_lt (by show X < _; exact Nat.lt_trans hX (by decide))
  obtain ⟨v, _, hc1, hv⟩ := hc.cells
  have hv : Nm w v X := hv
  have hs : Sm X := hs
  obtain ⟨ao, len, cap, ws, rfl, hr, ht, hwv, hl⟩ := hv.len hs
  have KL := hid (length_any w (.slice ao len cap) X hv hs)
  have hb1 : bitlen X ≤ 32 * len := by
    have h1 := wv_lt hr.ok
    rw [hwv, hr.len] at h1
    have e : (4294967296 : Nat) ^ len = 2 ^ (32 * len) := by rw [Nat.pow_mul]
    rw [e] at h1
    exact bitlen_le_of_lt h1
  have hb2 : bitlen X ≤ 112 := bitlen_le_of_lt hX
  obtain ⟨n, hn⟩ : ∃ n, n = byC X := ⟨_, rfl⟩
  rw [← hn]
  unfold byC at hn
  generalize bitlen X = bl at *
  have hw0 : IntKind.i64.wrap ((bl : Int) + 7) = (bl : Int) + 7 := by rw [IntKind.wrap_i64]; omega
  have hq0 : ((bl : Int) + 7) / 8 = (n : Nat) := by omega
  have HC := hid hc.lt
  have H1 := hid hc1
  have HR := hid hr
  have HWV := hid hwv
  have hn14 : n ≤ 14 := by omega
  have HNN := hid hn
  clear hv ht hc hs hn hwv hX
  go_enter Tryd.func35, Tryd.ntmps35
  go_wp2_with (first
    | (go_at_call 44; (with_reducible refine KL.out.mono ?_); rintro e w' ⟨rfl, rfl⟩)
    | (at_make; refine wpList_makeB rfl _ _ rfl .i64 .i64 n (by first | rfl | (show Value.int .i64 (((bl : Int) + 7) / 8) = _; rw [hq0])) (by first | rfl | (show Value.int .i64 (((bl : Int) + 7) / 8) = _; rw [hq0])) w.heap.size (by omega) (Nat.le_refl _) ?_; intro w1 hO hG; have O1 := hid (show OwnB w1 w.heap.size (some ⟨w.heap.size, 0, none⟩) n (byN X n 0) by rw [byN_zero]; exact hO); have B1 := hid ((Below.refl w.heap.size w).grown hG (Nat.le_refl _) (by simp)); clear hO hG))
  try rw [hq0]
  clear hw0 hq0 hc1
  go_loopw [5] (fun iv wr => ∃ i : Nat, i ≤ n ∧ iv = .int .i64 i ∧ Hid (OwnB wr w.heap.size (some ⟨w.heap.size, 0, none⟩) n (byN X n i)) ∧ Hid (Below w.heap.size w wr)) (fun iv _ => n - (intOf iv).toNat)
  case atStart => exact ⟨0, by omega, rfl, O1, B1⟩
  case round =>
    clear O1 B1
    obtain ⟨i, hi, rfl, HO, HB⟩ := hrel
    by_cases hlt : i < n
    · have hil : i / 4 < len := by have := HNN.out; omega
      obtain ⟨g, off, rfl⟩ := HR.out.addr (by omega)
      have rr := HR.out.below HB.out (Nat.le_refl _)
      obtain ⟨k, hk⟩ : ∃ k, k = i / 4 := ⟨_, rfl⟩
      obtain ⟨s, hs⟩ : ∃ s, s = 8 * (i % 4) := ⟨_, rfl⟩
      obtain ⟨J, hJ⟩ : ∃ J, J = n - 1 - i := ⟨_, rfl⟩
      have cw := rr.cell k (by omega)
      have ca : wr.cell? ⟨c, 1, none⟩ = some (.slice (some ⟨g, off, none⟩) len cap) := (HB.out.cell (p := ⟨c, 1, none⟩) HC.out).trans H1.out
      have wx := word_at HR.out.ok (k := k) (by rw [HR.out.len]; omega)
      rw [HWV.out] at wx
      have wl := wok_getD HR.out.ok k
      have DX := word_byte X i
      rw [← hk, ← hs] at DX
      rw [← wx] at DX
      have HSet := hid (byN_set X n hlt)
      rw [← hJ] at HSet
      have co := HO.out.cell J (by rw [byN_len]; omega)
      have fo := HO.out.frozen J
      generalize ws.getD k 0 = wk at *
      obtain ⟨d, hd⟩ : ∃ d, d = digE X (8 * i) := ⟨_, rfl⟩
      rw [← hd] at DX HSet
      obtain ⟨y, hy⟩ : ∃ y, y = wk / 2 ^ s := ⟨_, rfl⟩
      rw [← hy] at DX
      have hyd : (wk : Int) / 2 ^ s = (y : Nat) := by rw [hy]; simp
      have hd8 : IntKind.u8.wrap ((y : Nat) : Int) = (d : Nat) := by rw [IntKind.wrap_u8]; omega
      have hw1 : IntKind.i64.wrap ((n : Int) - 1) = (n : Int) - 1 := by rw [IntKind.wrap_i64]; omega
      have hw2 : IntKind.i64.wrap ((n : Int) - 1 - i) = (J : Nat) := by rw [IntKind.wrap_i64]; omega
      have hk4 : (i : Int) / 4 = (k : Nat) := by omega
      have hiu : IntKind.u64.wrap (i : Int) = i := by rw [IntKind.wrap_u64]; omega
      have hms : IntKind.u64.wrap (8 * ((i : Int) % 4)) = (s : Nat) := by rw [IntKind.wrap_u64]; omega
      have s0 : (0 : Int) ≤ s := by omega
      have s64 : (s : Int) < 64 := by omega
      have s32 : (s : Int) < 32 := by omega
      have J0 : (0 : Int) ≤ J := by omega
      have Jn : (J : Int) < n := by omega
      have k0 : (0 : Int) ≤ k := by omega
      have kl : (k : Int) < len := by omega
      have NO := hid (show OwnB (wr.setCell ⟨w.heap.size, J, none⟩ (.int .u8 (d : Nat))) w.heap.size (some ⟨w.heap.size, 0, none⟩) n (byN X n (i + 1)) from by rw [← HSet.out]; exact HO.out.set_ J _)
      have NB := hid (HB.out.setCell (p := ⟨w.heap.size, J, none⟩) (Nat.le_refl _) (.int .u8 (d : Nat)))
      clear hk hs hJ hd hy wx wl rr
      go_wp2
      go_roundw
      case rel => exact ⟨i + 1, by omega, by go_num, NO, NB⟩
      case measure => simp [intOf] <;> omega
    · obtain rfl : i = n := by omega
      go_wp2
      go_ret
      exact ⟨_, rfl, Nat.le_refl _, HO.out, HB.out⟩
end Go.Proofs.YtnbenmpjpogldaaDoor

/- The walk of FillBytes. -/
namespace Go.Proofs.YtnbenmpjpogldaaDoor
set_option linter.unusedVariables false
set_option linter.unusedSimpArgs false
set_option maxRecDepth 100000
open Go.RowKit

theorem below_same {B : Nat} {w wr : World} {g i : Nat} {t : TypeId} {cs : Array Value} {v : Value} (h : Below B w wr) (hb : Blk wr g t cs) (hi : cs[i]? = some v) : Below B w (wr.setCell ⟨g, i, none⟩ v) :=
  ⟨h.os, h.tape, h.output, by simpa [World.setCell] using h.size, fun k hk => by
    by_cases e : k = g
    · subst e
      have h1 := Blk.set_ hb i v
      have e2 : cs.setIfInBounds i v = cs := by
        have hlt : i < cs.size := by
          rcases Nat.lt_or_ge i cs.size with h3 | h3
          · exact h3
          · rw [Array.getElem?_eq_none h3] at hi; cases hi
        apply Array.ext
        · simp
        · intro j h3 h4
          rw [Array.getElem_setIfInBounds]
          split
          · rename_i e3
            subst e3
            rw [Array.getElem?_eq_getElem hlt] at hi
            exact (Option.some.inj hi).symm
          · rfl
      rw [e2] at h1
      exact h1.trans (hb.symm.trans (h.block k hk))
    · exact (Below.heap_setCell wr _ v k e).trans (h.block k hk)⟩
theorem infoBz : (Tryd.prog.info? 5).map (·.size) = some 1 := by kernel_rfl
theorem splice_bytes {X n : Nat} (hn : n ≤ 14) (hX : X < 2 ^ (8 * n)) : splice (bts (List.replicate 14 0)) (14 - n) (bts (byN X n n)) = bts (digL X) := by
  rw [← byN_all hn hX]
  unfold splice bts
  rw [List.length_map, byN_len, ← List.map_take, ← List.map_drop, List.map_append, List.take_replicate, List.drop_replicate]
  rw [show min (14 - n) 14 = 14 - n by omega, show 14 - (14 - n + n) = 0 by omega]
  simp
theorem rb_cells {w : World} {B : Nat} {ad : Addr} {xs : List Int} (h : Rb w B (some ad) xs) (hn : 0 < xs.length) : ∀ j u, (bts xs)[j]? = some u → w.cell? (ad.add j) = some u := by
  obtain ⟨a, e, _, hc⟩ := h.2 hn
  injection e with e
  subst e
  exact hc
set_option maxHeartbeats 4000000 in
theorem FillBytes_any (w : World) (c gb X : Nat) (hc : IntAt w c (X : Nat)) (hX : X < 2 ^ 112) (hb : Blk w gb 5 (bts (List.replicate 14 0)).toArray) :
    Calls Tryd.prog 21 #[.pointer (some ⟨c, 0, none⟩), .slice (some ⟨gb, 0, none⟩) 14 14] w fun e w' => e = .returned (.slice (some ⟨gb, 0, none⟩) 14 14) ∧ Blk w' gb 5 (bts (digL X)).toArray ∧ Below gb w w' := by
  have HC := hid hc
  have HB0 := hid hb
  have hgl := Blk.lt hb
  have hn14 := byC_le hX
  have hXn := byC_lt X
  have KB := hid (fun W (h : IntAt W c (X : Nat)) => Bytes_any W c X h hX)
  obtain ⟨n, hn⟩ : ∃ n, n = byC X := ⟨_, rfl⟩
  rw [← hn] at hn14 hXn KB
  have HXN := hid hXn
  clear hc hb hX hn hXn
  go_enter Tryd.func21, Tryd.ntmps21
  go_wp2
  go_loopw [9] (fun iv wr => ∃ i : Nat, i ≤ 14 ∧ iv = .int .i64 i ∧ Hid (Below w.heap.size w wr)) (fun iv _ => 14 - (intOf iv).toNat)
  case atStart => exact ⟨0, by omega, rfl, hid (Below.refl _ _)⟩
  case round =>
    obtain ⟨i, hi, rfl, HB⟩ := hrel
    have HG := hid (Blk.below' HB0.out HB.out)
    by_cases hlt : i < 14
    · have hv : (bts (List.replicate 14 0)).toArray[i]? = some (.int .u8 0) := by
        simp only [List.getElem?_toArray]
        rw [bts_get _ _ (by simp; exact hlt), List.getD_eq_getElem?_getD, List.getElem?_replicate, if_pos hlt]
        rfl
      have c0 : wr.cell? ⟨gb, i, none⟩ = some (.int .u8 0) := (Blk.cell HG.out i).trans hv
      have f0 := Blk.frozen HG.out i
      have NB := hid (below_same HB.out HG.out hv)
      have i0 : (0 : Int) ≤ i := by omega
      have i14 : (i : Int) < 14 := by omega
      clear hv
      go_wp2
      go_roundw
      case rel => exact ⟨i + 1, by omega, by go_num, NB⟩
      case measure => simp [intOf] <;> omega
    · obtain rfl : i = 14 := by omega
      try rw [show ((14 : Nat) : Int) = 14 from rfl]
      have HCr := hid (HC.out.below HB.out (Nat.le_refl _))
      rcases Nat.eq_zero_or_pos n with hz | hp
      · subst hz
        have hD := hid (show bts (digL X) = bts (List.replicate 14 0) from by
          have := splice_bytes hn14 HXN.out
          rw [← this]
          rfl)
        go_wp2_with (first
          | (go_at_call 35; (with_reducible refine (KB.out wr HCr.out).mono ?_); rintro e w1 ⟨g, rfl, hg, hO, hB⟩; have O1 := hid hO; have G1 := hid (Blk.below' HG.out hB); have B1 := hid (HB.out.trans (hB.mono HB.out.size)); have GG := hid hg; clear hO hB hg)
          | (refine wpList_copy_nothing rfl (.tmp 29) (.tmp 30) 31 31 rfl 5 Tryd.underlying31 infoBz (some ⟨gb, 0, none⟩) (some ⟨g, 0, none⟩) 0 0 0 0 rfl rfl rfl ?_))
        go_ret
        exact ⟨rfl, by rw [hD.out]; exact G1.out, B1.out.mono (Nat.le_of_lt hgl)⟩
      · have hle : decide ((n : Int) ≤ 14) = true := by simp; omega
        obtain ⟨lo, hlo⟩ : ∃ lo, lo = 14 - n := ⟨_, rfl⟩
        have hw1 : IntKind.i64.wrap (14 - (n : Int)) = (lo : Nat) := by rw [IntKind.wrap_i64]; omega
        have hlo14 : lo < 14 := by omega
        have hne : ¬ 14 = lo := by omega
        have l0 : (0 : Int) ≤ lo := by omega
        have l14 : (lo : Int) ≤ 14 := by omega
        have HLO := hid hlo
        clear hlo
        go_wp2_with (first
          | (go_at_call 35; (with_reducible refine (KB.out wr HCr.out).mono ?_); rintro e w1 ⟨g, rfl, hg, hO, hB⟩; have O1 := hid hO; have G1 := hid (Blk.below' HG.out hB); have B1 := hid (HB.out.trans (hB.mono HB.out.size)); have GG := hid hg; clear hO hB hg)
          | (refine wpList_copy_splice rfl (.tmp 29) (.tmp 30) 31 31 rfl 5 Tryd.underlying31 infoBz (some ⟨gb, lo, none⟩) (some ⟨g, 0, none⟩) (14 - lo) (14 - lo) n n rfl rfl gb lo (bts (List.replicate 14 0)) 5 G1.out (bts (byN X n n)) (by rw [bts_len, byN_len]; show n = min n (14 - lo); have := HLO.out; omega) (fun h0 => ⟨rfl, _, rfl, rb_cells O1.out.reads (by rw [bts_len] at h0; exact h0)⟩) (by rw [bts_len, bts_len, byN_len, List.length_replicate]; have := HLO.out; omega) (bts_one _) gb w (B1.out.mono (Nat.le_of_lt hgl)) (Nat.le_refl _) ?_; intro w2 hS hB2; have S2 := hid (show Blk w2 gb 5 (bts (digL X)).toArray from by rw [← splice_bytes hn14 HXN.out, ← HLO.out]; exact hS); have B2 := hid hB2; clear hS hB2))
        go_ret
        exact ⟨rfl, S2.out, B2.out⟩
end Go.Proofs.YtnbenmpjpogldaaDoor

/- The walks of Add. -/
namespace Go.Proofs.YtnbenmpjpogldaaDoor
set_option linter.unusedVariables false
set_option linter.unusedSimpArgs false
set_option maxRecDepth 100000
open Go.RowKit

set_option maxHeartbeats 2000000 in
theorem Add_far (w : World) (b c d : Nat) (x y : Int) (hb : IntBlk w b) (hc : IntAt w c x) (hd : IntAt w d y) (sx : Sm x.natAbs) (sy : Sm y.natAbs) (hbc : b ≠ c) (hbd : b ≠ d) :
    Calls Tryd.prog 19 #[.pointer (some ⟨b, 0, none⟩), .pointer (some ⟨c, 0, none⟩), .pointer (some ⟨d, 0, none⟩)] w (Gives w b (x + y)) := by
  obtain ⟨vx, h0, h1, hvx⟩ := hc.cells
  obtain ⟨vy, k0, k1, hvy⟩ := hd.cells
  have hlc := hc.lt
  have hld := hd.lt
  have hlb := hb.lt
  have HB := hid hb
  have HX := hid hvx
  have HY := hid hvy
  have NC := hid hbc
  have ND := hid hbd
  clear hb hvx hvy hc hd hbc hbd
  obtain ⟨s, hs⟩ : ∃ s, s = decide (x < 0) := ⟨_, rfl⟩
  rw [← hs] at h0
  have HSX := hid hs
  clear hs
  obtain ⟨t, ht⟩ : ∃ t, t = decide (y < 0) := ⟨_, rfl⟩
  rw [← ht] at k0
  have HSY := hid ht
  clear ht
  go_enter Tryd.func19, Tryd.ntmps19
  go_wp2_with fail
  go_region_held3 (fun w' => w'.cell? ⟨c, 0, none⟩ = some (.bool s) ∧ w'.cell? ⟨c, 1, none⟩ = some vx ∧ w'.cell? ⟨d, 0, none⟩ = some (.bool t) ∧ w'.cell? ⟨d, 1, none⟩ = some vy) (go_keep)
    (first
    | (go_at_call 33; refine (sum_any w.drew s t vx vy _ _ HX.out.drew HY.out.drew sx sy).mono ?_; rintro e w1 ⟨neg, v1, n1, rfl, hnm, hz, hw'⟩; have hw := Sums.below ⟨neg, v1, n1, rfl, hnm, hz, hw'⟩; clear hw'; have q1 := hid hw; have q2 := hid hnm; have q3 := hid hz; have c0 := (Below.cell hw (p := ⟨c, 0, none⟩) hlc).trans h0; have c1 := (Below.cell hw (p := ⟨c, 1, none⟩) hlc).trans h1; have d0 := (Below.cell hw (p := ⟨d, 0, none⟩) hld).trans k0; have d1 := (Below.cell hw (p := ⟨d, 1, none⟩) hld).trans k1; clear hnm hz hw)
    | (go_at_call 31; refine (give_any _ b _ _ n1 (HB.out.drew.below q1.out (Nat.le_refl _)) q2.out).mono ?_; rintro e w2 ⟨rfl, hI, hG⟩; have q4 := hid (And.intro hI hG); have c0' := (World.grownBy.cell hG c0 (fun h => NC.out (Option.some.inj h).symm)); have c1' := (World.grownBy.cell hG c1 (fun h => NC.out (Option.some.inj h).symm)); have d0' := (World.grownBy.cell hG d0 (fun h => ND.out (Option.some.inj h).symm)); have d1' := (World.grownBy.cell hG d1 (fun h => ND.out (Option.some.inj h).symm)); clear hI hG))
  all_goals
    go_wp2
    go_ret
    refine ⟨rfl, ?_, ?_⟩
    · have h1 := q4.out.1
      have h2 := q3.out
      rw [HSX.out, HSY.out] at h2
      rw [sgn_self, sgn_self] at h2
      rw [h2] at h1
      exact h1
    · exact grownBy_trans (grownBy_of_below (Below.drew (Below.refl w.heap.size w)) (Nat.le_refl _) _) (grownBy_trans (grownBy_of_below q1.out (Nat.le_refl _) _) q4.out.2)

end Go.Proofs.YtnbenmpjpogldaaDoor

/- The walk of Add, whatever Ints are one. -/
namespace Go.Proofs.YtnbenmpjpogldaaDoor
set_option linter.unusedVariables false
set_option linter.unusedSimpArgs false
set_option maxRecDepth 100000
open Go.RowKit

set_option maxHeartbeats 8000000 in
theorem Add_any (w : World) (b c d : Nat) (x y : Int) (hb : IntBlk w b) (hc : IntAt w c x) (hd : IntAt w d y) (sx : Sm x.natAbs) (sy : Sm y.natAbs) :
    Calls Tryd.prog 19 #[.pointer (some ⟨b, 0, none⟩), .pointer (some ⟨c, 0, none⟩), .pointer (some ⟨d, 0, none⟩)] w (Gives w b (x + y)) := by
  obtain ⟨vx, h0, h1, hvx⟩ := hc.cells
  obtain ⟨vy, k0, k1, hvy⟩ := hd.cells
  obtain ⟨s, hs⟩ : ∃ s, s = decide (x < 0) := ⟨_, rfl⟩
  rw [← hs] at h0
  obtain ⟨t, ht⟩ : ∃ t, t = decide (y < 0) := ⟨_, rfl⟩
  rw [← ht] at k0
  have hlc := hc.lt
  have hld := hd.lt
  have K0 := hid (sum_any w.drew s t vx vy _ _ hvx.drew hvy.drew sx sy)
  have G0 := hid (fun (w1 : World) (neg : Bool) (v1 : Value) (n1 : Nat) (hw : Below w.heap.size w w1) (hnm : Nm w1 v1 n1) => give_any w1 b neg v1 n1 (hb.below hw (Nat.le_refl _)) hnm)
  have FIN := hid (fun (w1 w2 : World) (neg : Bool) (n1 : Nat) (hw : Below w.heap.size w w1) (hz : sgn neg n1 = sgn s x.natAbs + sgn t y.natAbs) (hI : IntAt w2 b (sgn neg n1)) (hG : w1.grownBy w2 (some b)) =>
    show Gives w b (x + y) (.returned (.pointer (some ⟨b, 0, none⟩))) w2 from ⟨rfl, by (subst hs ht; (rw [hz, sgn_self, sgn_self] at hI; exact hI)), grownBy_trans (grownBy_of_below hw (Nat.le_refl _) _) hG⟩)
  clear hvx hvy hc hd hb hs ht sx sy
  go_enter Tryd.func19, Tryd.ntmps19
  go_wp2_with fail
  go_region_with (first
    | (go_at_call 33; refine K0.out.mono ?_; rintro e w1 ⟨neg, v1, n1, rfl, hnm, hz, hw'⟩; have q1 := hid ((Below.drew (Below.refl w.heap.size w)).trans (Sums.below ⟨neg, v1, n1, rfl, hnm, hz, hw'⟩)); have q2 := hid hnm; have q3 := hid hz; clear hnm hz hw')
    | (go_at_call 31; refine (G0.out _ _ _ _ q1.out q2.out).mono ?_; rintro e w2 ⟨rfl, hI, hG⟩; have q4 := hid hI; have q5 := hid hG; clear hI hG))
  all_goals
    go_wp2
    go_ret
    exact FIN.out _ _ _ _ q1.out q3.out q4.out q5.out
end Go.Proofs.YtnbenmpjpogldaaDoor

/- The walk of the reference's Pack. -/
namespace Go.Proofs.YtnbenmpjpogldaaDoor
set_option linter.unusedVariables false
set_option linter.unusedSimpArgs false
set_option maxRecDepth 100000
open Go.RowKit

theorem rb_one {w : World} {B g : Nat} {y : Int} (h : w.cell? ⟨g, 0, none⟩ = some (.int .u8 y)) (hg : g < B) : Rb w B (some ⟨g, 0, none⟩) [y] :=
  ⟨by simp [bts], fun _ => ⟨_, rfl, hg, fun j u hj => by
    match j, hj with
    | 0, hj => simp [bts] at hj; subst hj; rw [add_zero']; exact h⟩⟩
set_option maxHeartbeats 4000000 in
theorem refPack_any (ps : List Int) (w : World) (T : TabS w 0 widthL) (hl : ps.length = 25) (hw : W64 ps) :
    Calls Tryd.prog 11 #[.agg (agi ps)] w (PkOut ps w) := by
  have P0 := hid (IB.new w 28 ps)
  have B0 := hid ((Below.refl w.heap.size w).alloc (Nat.le_refl _) (.cells (agi ps) 28))
  have T0 := hid (T.below B0.out)
  have HL := hid hl
  obtain ⟨V, hV⟩ : ∃ V, V = w.alloc (.cells (agi ps) 28) := ⟨_, rfl⟩
  rw [← hV] at P0 B0 T0
  have HV := hid hV
  have KG := hid (refGoodP_any ps V T0.out hl)
  have KN := hid (fun W (h : TabS W 0 widthL) => numbers_any ps W h hl)
  have KP := hid (fun W => refParity_any ps W hl hw)
  clear T hl hw hV
  by_cases hg : pkTo ps 25 = true
  · have HG := hid hg
    have HBY := hid (show pkBytes ps = digL (pkW ps) ++ [chk (digL (pkW ps))] from if_pos hg)
    have HER := hid (show pkErr ps = 0 from if_pos hg)
    rw [hg] at KG
    clear hg
    go_enter Tryd.func11, Tryd.ntmps11
    go_wp2_with (first
      | (rw [← HV.out]; clear HV)
      | (refine wpList_loadI rfl 28 (.tmp 1) rfl _ 28 ps 25 _ rfl P0.out Tryd.underlying28 rfl size25d HL.out ?_)
      | (go_at_call 7; (with_reducible refine KG.out.mono ?_); rintro e w1 ⟨rfl, hB⟩; have P1 := hid (Blk.below' P0.out hB); have T1 := hid (T0.out.below hB); have B1 := hid (B0.out.trans (hB.mono B0.out.size)); clear hB)
      | (refine wpList_loadI rfl 28 (.tmp 1) rfl _ 28 ps 25 _ rfl P1.out Tryd.underlying28 rfl size25d HL.out ?_)
      | (go_at_call 15; (with_reducible refine (KN.out w1 T1.out).mono ?_); rintro e w2 ⟨A1, c1, A2, c2, A3, c3, rfl, h1, h2, h3, hB⟩; have O1 := hid h1.reads; have O2 := hid h2.reads; have P2 := hid (Blk.below' P1.out hB); have B2 := hid (B1.out.trans (hB.mono B1.out.size)); clear h1 h2 h3 hB))
    have I0 := hid (show IntAt (w2.alloc (.cells #[.bool false, .slice none 0 0] 54)) w2.heap.size ((pkX ps 0 : Nat) : Int) from IntAt_zero w2)
    have L0 := hid ((Below.refl w2.heap.size w2).alloc (Nat.le_refl _) (.cells #[.bool false, .slice none 0 0] 54))
    go_loopw [8, 23] (fun nv iv wr => ∃ i : Nat, i ≤ 25 ∧ iv = .int .i64 i ∧ nv = .int .i64 (pkA i : Nat) ∧ Hid (IntAt wr w2.heap.size ((pkX ps i : Nat) : Int)) ∧ Hid (Below w2.heap.size w2 wr)) (fun _ iv _ => 25 - (intOf iv).toNat)
    case atStart => exact ⟨0, by omega, rfl, rfl, I0, L0⟩
    case round =>
      clear I0 L0
      obtain ⟨i, hi, rfl, rfl, HI, HB⟩ := hrel
      by_cases hlt : i < 25
      · obtain ⟨ad, rfl, had, q0⟩ := O1.out.at_ (k := i) (by rw [HL.out]; exact hlt)
        obtain ⟨ae, rfl, hae, q1⟩ := O2.out.at_ (k := i) (by rw [pkB_len]; exact hlt)
        obtain ⟨hv1, hv2⟩ := pk_lt HG.out hlt
        obtain ⟨hn1, hn2, _⟩ := pkN_le hlt
        have ha := pkA_le (n := i + 1) (by omega)
        have hx := pkX_lt HG.out i hi
        have hx2 := pkX_lt HG.out (i + 1) hlt
        have SX := hid (show pkX ps (i + 1) = pkX ps i * 2 ^ pkN i + (ps.getD i 0).toNat from rfl)
        have SY := hid (show pkA (i + 1) = pkA i + pkN i from rfl)
        rw [SY.out] at ha
        rw [hv2] at q0
        rw [hn2] at q1
        have hXs : (pkX ps i * 2 ^ pkN i) < 340282366920938463463374607431768211456 := by
          have h1 : pkX ps (i + 1) < 2 ^ 106 := Nat.lt_of_lt_of_le hx2 (Nat.pow_le_pow_right (by decide) (by rw [SY.out]; omega))
          rw [SX.out] at h1
          have h2 : (2 : Nat) ^ 106 ≤ 340282366920938463463374607431768211456 := by decide
          omega
        have hXt : pkX ps i < 340282366920938463463374607431768211456 := by
          have h1 : pkX ps i < 2 ^ 106 := Nat.lt_of_lt_of_le hx (Nat.pow_le_pow_right (by decide) (by omega))
          have h2 : (2 : Nat) ^ 106 ≤ 340282366920938463463374607431768211456 := by decide
          omega
        have hvb : (ps.getD i 0).toNat < 64 := Nat.lt_of_lt_of_le hv1 (show 2 ^ pkN i ≤ 2 ^ 6 from Nat.pow_le_pow_right (by decide) hn1)
        generalize (ps.getD i 0).toNat = v at *
        generalize pkN i = n at *
        generalize pkX ps i = X at *
        generalize pkA i = a at *
        obtain ⟨Y, hY⟩ : ∃ Y, Y = X * 2 ^ n := ⟨_, rfl⟩
        rw [← hY] at hXs SX
        have KL := hid (show Calls Tryd.prog 18 #[.pointer (some ⟨w2.heap.size, 0, none⟩), .pointer (some ⟨w2.heap.size, 0, none⟩), .int .u64 (n : Nat)] wr (Gives wr w2.heap.size ((Y : Nat) : Int)) from by
          have h := Lsh_any wr w2.heap.size w2.heap.size ((X : Nat) : Int) n HI.out.blk HI.out (sm_of_lt hXt) (by omega)
          rw [show ((X : Nat) : Int) * 2 ^ n = ((Y : Nat) : Int) by rw [hY]; simp] at h
          exact h)
        have KA := hid (fun W => whole_any W ((v : Nat) : Int) (by omega) (by omega))
        have KS := hid (fun W b h1 h2 => Add_any W w2.heap.size w2.heap.size b ((Y : Nat) : Int) ((v : Nat) : Int) (IntAt.blk h1) h1 h2 (sm_of_lt hXs) (sm_of_lt (by show v < _; omega)))
        have hnu : IntKind.u64.wrap ((n : Nat) : Int) = (n : Nat) := by rw [IntKind.wrap_u64]; omega
        have hwa : IntKind.i64.wrap ((a : Int) + (n : Nat)) = (a : Int) + n := by rw [IntKind.wrap_i64]; omega
        have k1 : wr.cell? (ae.add i) = some (.int .i64 (n : Nat)) := (HB.out.cell (by rw [block_of_add]; exact hae)).trans q1
        have i0 : (0 : Int) ≤ i := by omega
        have i25 : (i : Int) < 25 := by omega
        have Q0 := hid q0
        have Q1 := hid q1
        have HA := hid had
        have HE := hid hae
        clear hv1 hv2 hn2 hx hx2 hXs hXt hY q0 q1 had hae
        go_wp2_with (first
          | (go_at_call 18; (with_reducible refine KL.out.mono ?_); rintro e wL ⟨rfl, hI, hG⟩; have IL := hid hI; have BL := hid (below_of_grownBy HB.out hG (Nat.le_refl _)); have kL := (BL.out.cell (p := ad.add i) (by rw [block_of_add]; exact HA.out)).trans Q0.out; clear hI hG)
          | (go_at_call 20; (with_reducible refine (KA.out wL).mono ?_); rintro e wA ⟨bA, rfl, hbA, hIA, hBA⟩; have IA := hid hIA; have XA := hid (IL.out.below hBA (Nat.le_refl _)); have BA := hid (BL.out.trans (hBA.mono BL.out.size)); clear hIA hBA)
          | (go_at_call 19; (with_reducible refine (KS.out wA bA XA.out IA.out).mono ?_); rintro e wS ⟨rfl, hIS, hGS⟩; have IS := hid hIS; have BS := hid (below_of_grownBy BA.out hGS (Nat.le_refl _)); have kS := (BS.out.cell (p := ae.add i) (by rw [block_of_add]; exact HE.out)).trans Q1.out; clear hIS hGS))
        go_roundw
        case rel => exact ⟨i + 1, by omega, by go_num, by rw [SY.out]; push_cast; rfl, hid (by rw [SX.out]; push_cast; exact IS.out), BS⟩
        case measure => simp [intOf] <;> omega
      · obtain rfl : i = 25 := by omega
        have hx := pkX_lt HG.out 25 (by omega)
        rw [pkA_end] at hx
        rw [show ((pkA 25 : Nat) : Int) = 106 from by rw [pkA_end]; rfl]
        try rw [show ((25 : Nat) : Int) = 25 from rfl]
        rw [pkQ_eq] at KP
        have hqq : pkQ ps < 2 := Nat.mod_lt _ (by decide)
        have HW := hid (pkW_eq HG.out)
        have hW := pkW_lt HG.out
        generalize pkQ ps = q at *
        generalize pkX ps 25 = X at *
        have KL1 := hid (show Calls Tryd.prog 18 #[.pointer (some ⟨w2.heap.size, 0, none⟩), .pointer (some ⟨w2.heap.size, 0, none⟩), .int .u64 1] wr (Gives wr w2.heap.size ((X * 2 : Nat) : Int)) from by
          have h := Lsh_any wr w2.heap.size w2.heap.size ((X : Nat) : Int) 1 HI.out.blk HI.out (sm_of_lt (by show X < _; omega)) (by omega)
          rw [show ((X : Nat) : Int) * 2 ^ 1 = ((X * 2 : Nat) : Int) by simp] at h
          exact h)
        have KA := hid (fun W => whole_any W ((q : Nat) : Int) (by omega) (by omega))
        have KS := hid (fun W b h1 h2 => show Calls Tryd.prog 19 #[.pointer (some ⟨w2.heap.size, 0, none⟩), .pointer (some ⟨w2.heap.size, 0, none⟩), .pointer (some ⟨b, 0, none⟩)] W (Gives W w2.heap.size ((X * 2 + q : Nat) : Int)) from by
          have h := Add_any W w2.heap.size w2.heap.size b ((X * 2 : Nat) : Int) ((q : Nat) : Int) (IntAt.blk h1) h1 h2 (sm_of_lt (by show X * 2 < _; omega)) (sm_of_lt (by show q < _; omega))
          rw [show ((X * 2 : Nat) : Int) + ((q : Nat) : Int) = ((X * 2 + q : Nat) : Int) by simp] at h
          exact h)
        have KL5 := hid (fun W (h1 : IntAt W w2.heap.size ((X * 2 + q : Nat) : Int)) => show Calls Tryd.prog 18 #[.pointer (some ⟨w2.heap.size, 0, none⟩), .pointer (some ⟨w2.heap.size, 0, none⟩), .int .u64 5] W (Gives W w2.heap.size ((pkW ps : Nat) : Int)) from by
          have h := Lsh_any W w2.heap.size w2.heap.size ((X * 2 + q : Nat) : Int) 5 h1.blk h1 (sm_of_lt (by show X * 2 + q < _; omega)) (by omega)
          rw [show ((X * 2 + q : Nat) : Int) * 2 ^ 5 = ((pkW ps : Nat) : Int) by rw [HW.out]; simp] at h
          exact h)
        have HBR := hid B2.out
        generalize pkW ps = Z at *
        clear hx hqq
        go_wp2_with (first
          | (go_at_call 18; (with_reducible refine KL1.out.mono ?_); rintro e wL ⟨rfl, hI, hG⟩; have IL := hid hI; have BL := hid (below_of_grownBy HB.out hG (Nat.le_refl _)); have PL := hid (Blk.below' P2.out BL.out); clear hI hG)
          | (refine wpList_loadI rfl 28 (.tmp 1) rfl _ 28 ps 25 _ rfl PL.out Tryd.underlying28 rfl size25d HL.out ?_)
          | (go_at_call 9; (with_reducible refine (KP.out wL).mono ?_); rintro e w6 ⟨rfl, hB⟩; have I6 := hid (IL.out.below hB (Nat.le_refl _)); have B6 := hid (BL.out.trans (hB.mono BL.out.size)); clear hB)
          | (go_at_call 20; (with_reducible refine (KA.out w6).mono ?_); rintro e wA ⟨bA, rfl, hbA, hIA, hBA⟩; have IA := hid hIA; have XA := hid (I6.out.below hBA (Nat.le_refl _)); have BA := hid (B6.out.trans (hBA.mono B6.out.size)); clear hIA hBA)
          | (go_at_call 19; (with_reducible refine (KS.out wA bA XA.out IA.out).mono ?_); rintro e wS ⟨rfl, hIS, hGS⟩; have IS := hid hIS; have BS := hid (below_of_grownBy BA.out hGS (Nat.le_refl _)); clear hIS hGS)
          | (go_at_call 18; (with_reducible refine (KL5.out wS IS.out).mono ?_); rintro e wT ⟨rfl, hI, hG⟩; have IT := hid hI; have BT := hid (below_of_grownBy BS.out hG (Nat.le_refl _)); clear hI hG)
          | (at_make; refine wpList_makeB rfl _ _ rfl .i64 .i64 14 rfl rfl wT.heap.size (by omega) (Nat.le_refl _) ?_; intro w7 hO hG; have G7 := hid (OwnB.blk hO (by simp)); have L7 := hid ((Below.refl wT.heap.size wT).grown hG (Nat.le_refl _) (by simp)); have I7 := hid (IT.out.below L7.out (Nat.le_refl _)); have B7 := hid (BT.out.trans (L7.out.mono BT.out.size)); clear hO hG)
          | (go_at_call 21; (with_reducible refine (FillBytes_any w7 w2.heap.size wT.heap.size Z I7.out hW G7.out).mono ?_); rintro e w8 ⟨rfl, hS, hB⟩; have G8 := hid hS; have B8 := hid (B7.out.trans (hB.mono BT.out.size)); clear hS hB)
          | (go_at_call 22; (with_reducible refine (refCheck_any (some ⟨wT.heap.size, 0, none⟩) 14 14 (digL Z) w8 (rb_all G8.out) (digL_len _) (by omega) (digL_byts _)).mono ?_); rintro e w' ⟨rfl, rfl⟩)
          | (at_builtin; refine wpList_catB rfl (.tmp 69) (.tmp 72) rfl wT.heap.size (some ⟨wT.heap.size, 0, none⟩) 14 14 (digL Z) rfl (digL_len _) (ownB_of_blk (Blk.alloc G8.out _) (Nat.le_refl _) (by rw [digL_len]; omega)) _ _ 1 1 [chk (digL Z)] rfl rfl (rb_one (cell_newE rfl) (Nat.lt_succ_self _)) (by omega) (by have := Blk.lt G8.out; rw [World.size_alloc]; omega) ?_; intro A9 c9 w9 hO hG; have O9 := hid hO; have B9 := hid ((B8.out.alloc B8.out.size _).grown hG (by have := B8.out.size; rw [World.size_alloc]; omega) (fun k hk => by cases hk; exact BT.out.size)); clear hO hG))
        go_ret2
        exact ⟨A9, c9, by rw [HER.out, HBY.out, List.length_append, digL_len]; rfl, by rw [HBY.out]; exact O9.out.more (Nat.le_trans HBR.out.size BT.out.size), HBR.out.trans (B9.out.mono HBR.out.size)⟩
  · have hgf : pkTo ps 25 = false := by simpa using hg
    have HBY := hid (show pkBytes ps = [] from if_neg hg)
    have HER := hid (show pkErr ps = 2 from if_neg hg)
    rw [hgf] at KG
    clear hg hgf
    go_enter Tryd.func11, Tryd.ntmps11
    go_wp2_with (first
      | (rw [← HV.out]; clear HV)
      | (refine wpList_loadI rfl 28 (.tmp 1) rfl _ 28 ps 25 _ rfl P0.out Tryd.underlying28 rfl size25d HL.out ?_)
      | (go_at_call 7; (with_reducible refine KG.out.mono ?_); rintro e w1 ⟨rfl, hB⟩; have B1 := hid (B0.out.trans (hB.mono B0.out.size)); clear hB))
    go_ret2
    exact ⟨none, 0, by rw [HBY.out, HER.out]; rfl, by rw [HBY.out]; exact OwnB.nil, B1.out⟩
end Go.Proofs.YtnbenmpjpogldaaDoor

/- Whatever is built of numbers and truth values is the same as itself; a packet is. -/
namespace Go.Proofs.YtnbenmpjpogldaaDoor
set_option linter.unusedVariables false
set_option linter.unusedSimpArgs false
set_option maxRecDepth 100000
open Go.RowKit

def SameAt (d : Nat) (t : TypeId) (v : Value) : Prop := ∀ w, (Op.equalIn d t v v).run Tryd.prog w = .ok true w
def PartAt (t : TypeId) (xs : Array Value) (o : Nat) (v : Value) : Prop := ∀ w, (part t xs o).run Tryd.prog w = .ok v w
theorem SameAt.num (d : Nat) (x : Int) : SameAt (d + 1) 3 (.int .i64 x) := fun w => by
  rw [run_equalIn_int w d 3 .i64 .i64 _ _ Tryd.underlying3]
  simp
theorem SameAt.tf (d : Nat) (x : Bool) : SameAt (d + 1) 4 (.bool x) := fun w => by
  rw [run_equalIn_bool' w d 4 _ _ Tryd.underlying4]
  simp
theorem SameAt.arr (d : Nat) {t : TypeId} {n : Nat} (ht : Tryd.prog.underlying t = some (.array n 3)) (xs : List Int) (hl : xs.length = n) : SameAt (d + 2) t (.agg (agi xs)) := run_equalIn_agi d ht xs hl
theorem PartAt.row {t : TypeId} {n o : Nat} (hs : ∀ w, (sizeOf t).run Tryd.prog w = .ok n w) (ha : ∀ w, (isAgg t).run Tryd.prog w = .ok true w) (cs A xs B : List Value) (he : cs = A ++ (xs ++ B)) (ho : A.length = o) (hl : xs.length = n) : PartAt t cs.toArray o (.agg xs.toArray) := fun w => by
  subst he
  subst ho
  subst hl
  have e : (A ++ (xs ++ B)).toArray.extract A.length (A.length + xs.length) = xs.toArray := by
    simp [List.extract_toArray]
  simp only [part, Sem.run_bind, ha, hs, Result.andThen_ok, if_true, Sem.run_pure, e]
theorem PartAt.cell {t : TypeId} {o : Nat} (ha : ∀ w, (isAgg t).run Tryd.prog w = .ok false w) (cs A B : List Value) (v : Value) (he : cs = A ++ (v :: B)) (ho : A.length = o) : PartAt t cs.toArray o v := fun w => by
  subst he
  subst ho
  simp [part, ha]
theorem eqFieldsG (d : Nat) (xs : Array Value) : ∀ fs : List Field, (∀ f ∈ fs, ∃ v, PartAt f.type xs f.offset v ∧ SameAt d f.type v) → ∀ w, (Op.eqFields d xs xs fs).run Tryd.prog w = .ok true w
  | [], _, w => by simp [Op.eqFields]
  | f :: fs, h, w => by
    obtain ⟨v, h1, h2⟩ := h f (by simp)
    have ih := eqFieldsG d xs fs (fun g hg => h g (by simp [hg])) w
    simp only [Op.eqFields, Sem.run_bind, Sem.run_ite]
    split
    · simp only [h1 w, h2 w, Result.andThen_ok, Bool.not_true, Bool.false_eq_true, if_false]
      exact ih
    · exact ih
theorem SameAt.struct {d : Nat} {t : TypeId} (ht : Tryd.prog.underlying t = some (.struct (Tryd.prog.fieldsOf t))) (hp : Tryd.prog.stoodInHeld t = false) (xs : Array Value) (l : List (TypeId × Nat))
    (e : (Tryd.prog.fieldsOf t).toList.map (fun f => (f.type, f.offset)) = l) (h : ∀ p ∈ l, ∃ v, PartAt p.1 xs p.2 v ∧ SameAt d p.1 v) : SameAt (d + 1) t (.agg xs) := fun w => by
  rw [run_equalIn_struct w d t xs xs ht hp]
  exact eqFieldsG d xs _ (fun f hf => h (f.type, f.offset) (by rw [← e]; exact List.mem_map_of_mem hf)) w
theorem SameAt.array {d : Nat} {t e : TypeId} {n k : Nat} (ht : Tryd.prog.underlying t = some (.array n e)) (hs : ∀ w, (sizeOf e).run Tryd.prog w = .ok k w) (xs : Array Value)
    (h : ∀ i, i < n → ∃ v, PartAt e xs (i * k) v ∧ SameAt d e v) : SameAt (d + 1) t (.agg xs) := fun w => by
  rw [Op.equalIn]
  simp only [Sem.run_bind, run_underlying ht, Result.andThen_ok, hs, Std.Legacy.Range.forIn_eq_forIn_range', Std.Legacy.Range.size, Nat.sub_zero, Nat.add_sub_cancel, Nat.div_one]
  have hl2 : ∀ i ∈ List.range' 0 n 1, i < n := fun i hi => by simpa using (List.mem_range'_1.1 hi).2
  generalize List.range' 0 n 1 = l at hl2 ⊢
  induction l with
  | nil => simp
  | cons i l ih =>
    obtain ⟨v, px, pe⟩ := h i (hl2 i (by simp))
    simp only [List.forIn_cons, Sem.run_bind, px w, pe w, Result.andThen_ok]
    simp only [Bool.not_true, Bool.false_eq_true, if_false, Sem.run_pure, Result.andThen_ok]
    exact ih fun j hj => hl2 j (by simp [hj])
theorem SameAt.eql {t : TypeId} {xs : Array Value} (h : SameAt 10000 t (.agg xs)) (w : World) : (binOp .eql t (.agg xs) (.agg xs)).run Tryd.prog w = .ok (.bool true) w := by
  rw [run_eql_struct, h w]
  rfl
theorem SameAt.sub (d : Nat) (u : List Int) (hl : u.length = 8) : SameAt (d + 3) 25 (.agg (agi u)) := by
  match u, hl with
  | [a, b, c0, c1, c2, c3, s, v], _ =>
    refine SameAt.struct (by kernel_rfl) (by kernel_rfl) _ [(3, 0), (3, 1), (23, 2), (3, 6), (3, 7)] (by kernel_rfl) (fun p hp => ?_)
    simp only [List.mem_cons, List.not_mem_nil, or_false] at hp
    rcases hp with rfl | rfl | rfl | rfl | rfl
    · exact ⟨_, PartAt.cell (fun _ => by kernel_rfl) (ints [a, b, c0, c1, c2, c3, s, v]) [] _ (.int .i64 a) rfl rfl, SameAt.num _ a⟩
    · exact ⟨_, PartAt.cell (fun _ => by kernel_rfl) (ints [a, b, c0, c1, c2, c3, s, v]) (ints [a]) _ (.int .i64 b) rfl rfl, SameAt.num _ b⟩
    · exact ⟨_, PartAt.row (n := 4) (fun _ => by kernel_rfl) (fun _ => by kernel_rfl) (ints [a, b, c0, c1, c2, c3, s, v]) (ints [a, b]) (ints [c0, c1, c2, c3]) _ rfl rfl rfl, SameAt.arr d Tryd.underlying23 [c0, c1, c2, c3] rfl⟩
    · exact ⟨_, PartAt.cell (fun _ => by kernel_rfl) (ints [a, b, c0, c1, c2, c3, s, v]) (ints [a, b, c0, c1, c2, c3]) _ (.int .i64 s) rfl rfl, SameAt.num _ s⟩
    · exact ⟨_, PartAt.cell (fun _ => by kernel_rfl) (ints [a, b, c0, c1, c2, c3, s, v]) (ints [a, b, c0, c1, c2, c3, s]) _ (.int .i64 v) rfl rfl, SameAt.num _ v⟩
theorem ints_cut (ps : List Int) (o n : Nat) : ints ps = ints (ps.take o) ++ (ints ((ps.drop o).take n) ++ ints (ps.drop (o + n))) := by
  rw [ints_append, ints_append, ← List.drop_drop, List.take_append_drop, List.take_append_drop]
theorem part_cut {t : TypeId} {n : Nat} (hs : ∀ w, (sizeOf t).run Tryd.prog w = .ok n w) (ha : ∀ w, (isAgg t).run Tryd.prog w = .ok true w) (ps : List Int) (o : Nat) (h : o + n ≤ ps.length) : PartAt t (agi ps) o (.agg (agi ((ps.drop o).take n))) :=
  PartAt.row hs ha (ints ps) (ints (ps.take o)) (ints ((ps.drop o).take n)) _ (ints_cut ps o n) (by rw [ints_len, List.length_take]; omega) (by rw [ints_len, List.length_take, List.length_drop]; omega)
theorem part_one (ps : List Int) (o : Nat) (h : o < ps.length) : PartAt 3 (agi ps) o (.int .i64 (ps.getD o 0)) := fun w => by
  have ha : ∀ w, (isAgg 3).run Tryd.prog w = .ok false w := fun w => by kernel_rfl
  have hg := agi_get ps o h
  simp [part, ha, hg]
theorem SameAt.subs (d : Nat) (us : List Int) (hl : us.length = 16) : SameAt (d + 4) 26 (.agg (agi us)) :=
  SameAt.array (k := 8) Tryd.underlying26 (fun _ => by kernel_rfl) _ (fun i hi => ⟨_, part_cut (n := 8) (fun _ => by kernel_rfl) (fun _ => by kernel_rfl) us (i * 8) (by omega), SameAt.sub d ((us.drop (i * 8)).take 8) (by rw [List.length_take, List.length_drop]; omega)⟩)
/-- A packet is the same as itself. -/
theorem run_eql_packet (ps : List Int) (hl : ps.length = 25) (w : World) : (binOp .eql 28 (.agg (agi ps)) (.agg (agi ps))).run Tryd.prog w = .ok (.bool true) w := by
  refine SameAt.eql (SameAt.struct (d := 9999) (by kernel_rfl) (by kernel_rfl) _ [(3, 0), (22, 1), (26, 9)] (by kernel_rfl) (fun p hp => ?_)) w
  simp only [List.mem_cons, List.not_mem_nil, or_false] at hp
  rcases hp with rfl | rfl | rfl
  · exact ⟨_, part_one ps 0 (by omega), SameAt.num 9998 _⟩
  · exact ⟨_, part_cut (n := 8) (fun _ => by kernel_rfl) (fun _ => by kernel_rfl) ps 1 (by omega), SameAt.arr 9997 Tryd.underlying22 _ (by rw [List.length_take, List.length_drop]; omega)⟩
  · exact ⟨_, part_cut (n := 16) (fun _ => by kernel_rfl) (fun _ => by kernel_rfl) ps 9 (by omega), SameAt.subs 9995 ((ps.drop 9).take 16) (by rw [List.length_take, List.length_drop]; omega)⟩
end Go.Proofs.YtnbenmpjpogldaaDoor

/- The walk of the law PackUnpacks. -/
namespace Go.Proofs.YtnbenmpjpogldaaDoor
set_option linter.unusedVariables false
set_option linter.unusedSimpArgs false
set_option maxRecDepth 100000
open Go.RowKit

theorem pk2_bytes : (pkBytes (2 :: List.replicate 24 0)).length = 15 := by decide +kernel
theorem pk2_head : (unL (pkBytes (2 :: List.replicate 24 0))).getD 0 0 = 2 := by decide +kernel
theorem digL_chk (V : Nat) (c : Int) (h0 : 0 ≤ c) (h1 : c ≤ 255) : Byts (digL V ++ [c]) := fun i => by
  rw [List.getD_eq_getElem?_getD]
  by_cases h : i < (digL V).length
  · rw [List.getElem?_append_left h, ← List.getD_eq_getElem?_getD]
    exact digL_byts V i
  · rw [List.getElem?_append_right (by omega)]
    rcases hk : i - (digL V).length with _ | k
    · simp; omega
    · simp
theorem chk_byte (xs : List Int) : 0 ≤ chk xs ∧ chk xs ≤ 255 := by unfold chk; omega
theorem pkBytes_byts (ps : List Int) : Byts (pkBytes ps) := by
  unfold pkBytes
  split
  · exact digL_chk _ _ (chk_byte _).1 (chk_byte _).2
  · exact fun i => by simp
theorem z25_eq : agi Z25 = #[.int .i64 0, .int .i64 0, .int .i64 0, .int .i64 0, .int .i64 0, .int .i64 0, .int .i64 0, .int .i64 0, .int .i64 0, .int .i64 0, .int .i64 0, .int .i64 0, .int .i64 0, .int .i64 0, .int .i64 0, .int .i64 0, .int .i64 0, .int .i64 0, .int .i64 0, .int .i64 0, .int .i64 0, .int .i64 0, .int .i64 0, .int .i64 0, .int .i64 0] := rfl
/-- The bytes that came in, and both tables, whatever else has been made. -/
structure PGB (w W : World) (A : Option Addr) (xs : List Int) : Prop where
  P : Rb W w.heap.size A xs
  A : TabA W 1 widthL
  S : TabS W 0 widthL
  B : Below w.heap.size w W
theorem PGB.below {w W W' : World} {A : Option Addr} {xs : List Int} (s : PGB w W A xs) (hb : Below W.heap.size W W') : PGB w W' A xs :=
  ⟨s.P.below (hb.mono s.B.size), s.A.below hb, s.S.below hb, s.B.trans (hb.mono s.B.size)⟩
theorem storedP (w : World) (ps : List Int) : IB ((w.alloc (.cells (agi Z25) 28)).setRow w.heap.size (agi ps)) w.heap.size 28 ps := IB.stored w 28 Z25 ps
theorem unL_64 (xs : List Int) : W64 (unL xs) := by
  unfold unL
  split
  · exact uL_64 _ _
  · exact fun x hx => by rw [List.eq_of_mem_replicate hx]; omega

set_option maxHeartbeats 4000000 in
theorem walkPackUnpacks (w : World) (TA : TabA w 1 widthL) (TS : TabS w 0 widthL) (A : Option Addr) (c : Nat) (xs : List Int) (hr : Rb w w.heap.size A xs) (hx : Byts xs) (hl : xs.length ≤ c) (hc : c ≤ 140737488351232) :
    Calls Tryd.prog 5 #[.slice A xs.length c] w fun e w' => e = .returned (.bool true) ∧ Below w.heap.size w w' := by
  have T := hid (show PGB w w A xs from ⟨hr, TA, TS, Below.refl _ _⟩)
  have KU := hid (fun W (h : PGB w W A xs) A2 c2 (hr : Rb W W.heap.size A2 xs) (hc : xs.length ≤ c2) => packUnpack_any A2 c2 xs.length xs W h.A hr rfl hc hx)
  have KR := hid (fun W (h : PGB w W A xs) => refUnpack_any A c xs.length xs W h.S (h.P.more h.B.size) rfl hl hx)
  have KP := hid (fun W (h : PGB w W A xs) => show Calls Tryd.prog 11 #[.agg #[.int .i64 2, .int .i64 0, .int .i64 0, .int .i64 0, .int .i64 0, .int .i64 0, .int .i64 0, .int .i64 0, .int .i64 0, .int .i64 0, .int .i64 0, .int .i64 0, .int .i64 0, .int .i64 0, .int .i64 0, .int .i64 0, .int .i64 0, .int .i64 0, .int .i64 0, .int .i64 0, .int .i64 0, .int .i64 0, .int .i64 0, .int .i64 0, .int .i64 0]] W
      (fun e w' => ∃ A c, e = .returned (.tuple #[.slice A 15 c, .int .i64 (pkErr (2 :: List.replicate 24 0))]) ∧ OwnB w' W.heap.size A c (pkBytes (2 :: List.replicate 24 0)) ∧ Below W.heap.size W w') from
    (refPack_any (2 :: List.replicate 24 0) W h.S rfl (fun x hx => by
      rcases List.mem_cons.1 hx with rfl | hx
      · omega
      · rw [List.eq_of_mem_replicate hx]; omega)).mono fun e w' ⟨A, c, h1, h2, h3⟩ => ⟨A, c, by rw [h1, pk2_bytes], h2, h3⟩)
  have KV := hid (fun W (h : PGB w W A xs) A2 c2 (hO : OwnB W W.heap.size A2 c2 (pkBytes (2 :: List.replicate 24 0)) ∨ ∃ B, OwnB W B A2 c2 (pkBytes (2 :: List.replicate 24 0))) => show Calls Tryd.prog 12 #[.slice A2 15 c2] W (UnOut (pkBytes (2 :: List.replicate 24 0)) W) from by
    have ⟨h1, h2⟩ : Rb W W.heap.size A2 (pkBytes (2 :: List.replicate 24 0)) ∧ (pkBytes (2 :: List.replicate 24 0)).length ≤ c2 := by
      rcases hO with hO | ⟨B, hO⟩ <;> exact ⟨hO.reads, hO.cap.1⟩
    rw [pk2_bytes] at h2
    exact packUnpack_any A2 c2 15 _ W h.A h1 pk2_bytes h2 (pkBytes_byts _))
  have heq := fun w => run_eql_packet (unL xs) (unL_len xs) w
  have HL := hid (unL_len xs)
  have HL2 := hid (unL_len (pkBytes (2 :: List.replicate 24 0)))
  have HH := hid pk2_head
  have HN := hid (show xs.length ≤ 140737488351232 by omega)
  have HLC := hid hl
  unfold UnOut at KU KR KV
  generalize unL (pkBytes (2 :: List.replicate 24 0)) = q3 at *
  generalize unE (pkBytes (2 :: List.replicate 24 0)) = e3 at *
  generalize pkErr (2 :: List.replicate 24 0) = e2 at *
  generalize pkBytes (2 :: List.replicate 24 0) = ys at *
  generalize unL xs = ps at *
  generalize unE xs = er at *
  obtain ⟨n, hn⟩ : ∃ n, n = xs.length := ⟨_, rfl⟩
  rw [← hn] at KU KR HLC HN ⊢
  have HNN := hid hn.symm
  clear TA TS hr hx hl hc hn
  go_enter Tryd.func5, Tryd.ntmps5
  go_wp2_with (first
    | (at_builtin; refine wpList_catB rfl (.const (.slice none 0 0)) (.tmp 12) rfl w.heap.size none 0 0 [] rfl rfl OwnB.nil w.heap.size A c n xs rfl HNN.out T.out.P (by have := HN.out; omega) (Nat.le_refl _) ?_
       intro A1 c1 w1 hO hG
       have O1 := hid (show OwnB w1 w.heap.size A1 c1 xs from hO)
       have T1 := hid (T.out.below (show Below w.heap.size w w1 from (Below.refl _ _).grown hG (Nat.le_refl _) (by simp)))
       rw [Nat.zero_add]
       clear hO hG)
    | (go_at_call 12; (with_reducible refine (KU.out w1 T1.out A1 c1 O1.out.reads (by have := O1.out.cap.1; rw [HNN.out] at this; exact this)).mono ?_); rintro e w2 ⟨rfl, hB⟩; have T2 := hid (T1.out.below hB); clear hB)
    | (refine wpList_storeI rfl 28 (.tmp 3) (.tmp 15) rfl _ 28 Z25 ps 25 rfl rfl (IB.new w2 28 Z25) size25d rfl HL.out ?_
       have BB := below_stored w2 (.cells (agi Z25) 28) (agi ps)
       obtain ⟨V3, hV⟩ : ∃ V3, V3 = (w2.alloc (.cells (agi Z25) 28)).setRow w2.heap.size (agi ps) := ⟨_, rfl⟩
       have T3 := hid (show PGB w V3 A xs from by rw [hV]; exact T2.out.below BB)
       have I3 := hid (show IB V3 w2.heap.size 28 ps from by rw [hV]; exact storedP w2 ps)
       rw [z25_eq] at hV
       rw [← hV]
       clear hV BB)
    | (go_at_call 13; (with_reducible refine (KR.out V3 T3.out).mono ?_); rintro e w4 ⟨rfl, hB⟩; have T4 := hid (T3.out.below hB); have I4 := hid (Blk.below' I3.out hB); clear hB)
    | (refine wpList_storeI rfl 28 (.tmp 5) (.tmp 20) rfl _ 28 Z25 ps 25 rfl rfl (IB.new w4 28 Z25) size25d rfl HL.out ?_
       have BB := below_stored w4 (.cells (agi Z25) 28) (agi ps)
       obtain ⟨V5, hV⟩ : ∃ V5, V5 = (w4.alloc (.cells (agi Z25) 28)).setRow w4.heap.size (agi ps) := ⟨_, rfl⟩
       have T5 := hid (show PGB w V5 A xs from by rw [hV]; exact T4.out.below BB)
       have J5 := hid (show IB V5 w4.heap.size 28 ps from by rw [hV]; exact storedP w4 ps)
       have I5 := hid (show IB V5 w2.heap.size 28 ps from by rw [hV]; exact Blk.below' I4.out BB)
       rw [z25_eq] at hV
       rw [← hV]
       clear hV BB)
    | (go_at_call 11; (with_reducible refine (KP.out V5 T5.out).mono ?_); rintro e w6 ⟨A6, c6, rfl, hO, hB⟩; have T6 := hid (T5.out.below hB); have I6 := hid (Blk.below' I5.out hB); have J6 := hid (Blk.below' J5.out hB); have O6 := hid hO; clear hO hB)
    | (go_at_call 12; (with_reducible refine (KV.out w6 T6.out A6 c6 (.inr ⟨_, O6.out⟩)).mono ?_); rintro e w7 ⟨rfl, hB⟩; have T7 := hid (T6.out.below hB); have I7 := hid (Blk.below' I6.out hB); have J7 := hid (Blk.below' J6.out hB); clear hB)
    | (refine wpList_storeI rfl 28 (.tmp 9) (.tmp 30) rfl _ 28 Z25 q3 25 rfl rfl (IB.new w7 28 Z25) size25d rfl HL2.out ?_
       have BB := below_stored w7 (.cells (agi Z25) 28) (agi q3)
       obtain ⟨V8, hV⟩ : ∃ V8, V8 = (w7.alloc (.cells (agi Z25) 28)).setRow w7.heap.size (agi q3) := ⟨_, rfl⟩
       have T8 := hid (show PGB w V8 A xs from by rw [hV]; exact T7.out.below BB)
       have Q8 := hid (show IB V8 w7.heap.size 28 q3 from by rw [hV]; exact storedP w7 q3)
       have I8 := hid (show IB V8 w2.heap.size 28 ps from by rw [hV]; exact Blk.below' I7.out BB)
       have J8 := hid (show IB V8 w4.heap.size 28 ps from by rw [hV]; exact Blk.below' J7.out BB)
       have cq : V8.cell? ⟨w7.heap.size, 0, none⟩ = some (.int .i64 2) := by rw [IB.cell Q8.out 0 (by rw [HL2.out]; omega), HH.out]
       rw [z25_eq] at hV
       rw [← hV]
       clear hV BB)
    | (refine wpList_loadI rfl 28 (.tmp 3) rfl _ 28 ps 25 _ rfl I8.out Tryd.underlying28 rfl size25d HL.out ?_)
    | (refine wpList_loadI rfl 28 (.tmp 5) rfl _ 28 ps 25 _ rfl J8.out Tryd.underlying28 rfl size25d HL.out ?_))
  go_ret
  exact ⟨by simp, T8.out.B⟩
end Go.Proofs.YtnbenmpjpogldaaDoor
