/- SetBit of Int, for small numbers. -/
import Derived.Test.YtniechgbbkkncaaBigInt3
import Derived.Laws.CopyOwn
namespace Go.Proofs.Ytniechgbbkkncaa
set_option linter.unusedVariables false
set_option linter.unusedSimpArgs false
set_option maxRecDepth 100000
open Go.RowKit

theorem or_top {z i m : Nat} (hz : z = m * 2 ^ (i + 1)) : z ||| 2 ^ i = z + 2 ^ i := by
  rw [hz, Nat.mul_comm m]
  exact (Nat.two_pow_add_eq_or_of_lt (Nat.pow_lt_pow_right (by decide) (by omega)) m).symm
theorem or32 {z p : Nat} (e : z ||| p = z + p) (h : z + p < 4294967296) : bits BinOp.or IntKind.u32 (z : Nat) (p : Nat) = ((z + p : Nat) : Int) := by
  have hlt : (BitVec.ofInt 32 (z : Int) ||| BitVec.ofInt 32 (p : Int)).toNat = z + p := by
    rw [BitVec.ofInt_natCast, BitVec.ofInt_natCast, BitVec.toNat_or, BitVec.toNat_ofNat, BitVec.toNat_ofNat, Nat.mod_eq_of_lt (by omega), Nat.mod_eq_of_lt (by omega), e]
  show IntKind.u32.wrap ((BitVec.ofInt 32 (z : Int) ||| BitVec.ofInt 32 (p : Int)).toNat : Int) = _
  rw [hlt, IntKind.wrap_u32]
  omega
theorem or64 {z p : Nat} (e : z ||| p = z + p) (h : z + p < 4294967296) : bits BinOp.or IntKind.i64 (z : Nat) (p : Nat) = ((z + p : Nat) : Int) := by
  have hlt : (BitVec.ofInt 64 (z : Int) ||| BitVec.ofInt 64 (p : Int)).toNat = z + p := by
    rw [BitVec.ofInt_natCast, BitVec.ofInt_natCast, BitVec.toNat_or, BitVec.toNat_ofNat, BitVec.toNat_ofNat, Nat.mod_eq_of_lt (by omega), Nat.mod_eq_of_lt (by omega), e]
  show IntKind.i64.wrap ((BitVec.ofInt 64 (z : Int) ||| BitVec.ofInt 64 (p : Int)).toNat : Int) = _
  rw [hlt, IntKind.wrap_i64]
  omega
theorem andnot32 {z i m : Nat} (hz : z = m * 2 ^ (i + 1)) (h : z + 2 ^ i < 4294967296) : bits BinOp.andNot IntKind.u32 (z : Nat) ((2 ^ i : Nat) : Int) = (z : Nat) := by
  have hz2 : z < 4294967296 := Nat.lt_of_le_of_lt (Nat.le_add_right _ _) h
  have hlt : (BitVec.ofInt 32 (z : Int) &&& ~~~ BitVec.ofInt 32 ((2 ^ i : Nat) : Int)) = BitVec.ofNat 32 z := by
    rw [BitVec.ofInt_natCast, BitVec.ofInt_natCast]
    apply BitVec.eq_of_getLsbD_eq
    intro j hj
    simp only [BitVec.getLsbD_and, BitVec.getLsbD_not, BitVec.getLsbD_ofNat, hj, decide_true, Bool.true_and]
    rw [Nat.testBit_two_pow, hz, Nat.mul_comm m, Nat.testBit_two_pow_mul]
    by_cases hij : i = j
    · subst hij; simp; omega
    · simp [hij]
  show IntKind.u32.wrap ((BitVec.ofInt 32 (z : Int) &&& ~~~ BitVec.ofInt 32 ((2 ^ i : Nat) : Int)).toNat : Int) = _
  rw [hlt, BitVec.toNat_ofNat, IntKind.wrap_u32, Nat.mod_eq_of_lt (by simpa using hz2)]
  clear h hz hlt
  omega

/-- Two words in a new block. -/
def LowTwo (w : World) (n : Nat) (e : Ending) (w' : World) : Prop :=
  e = .returned (.slice (some ⟨w.heap.size, 0, none⟩) 2 2) ∧ w'.heap[w.heap.size]? = some (.cells #[.int .u32 (n : Nat), .int .u32 0] 110 (0, 0)) ∧ Below w.heap.size w w'

theorem owns_two {w : World} {base g : Nat} {n : Nat} {l : List Value} (h : w.ownsRow base 110 1 (.slice (some ⟨g, 0, none⟩) n n) n l) (hn : l.length = n) : w.heap[g]? = some (.cells l.toArray 110 (0, 0)) := by
  obtain ⟨hl, h2⟩ := h
  rcases h2 with ⟨h3, _⟩ | ⟨g', cap, cur, he, hg, hh, hnc, hcm, hcs, htake⟩
  · cases h3
  · cases he
    rw [hh]
    congr 2
    apply Array.ext'
    rw [← htake]
    rw [List.take_of_length_le]
    simp
    omega

set_option maxHeartbeats 1000000 in
theorem low_two (w : World) (c n : Nat) (hc : IntAt w c (n : Int)) (hn : n < 4294967296) :
    Calls Try.prog 113 #[.pointer (some ⟨c, 0, none⟩), .int .i64 2] w (LowTwo w n) := by
  obtain ⟨i0, hi, hz0, hz1, hz2⟩ := info_parts info32
  have hcl := hc.lt
  obtain ⟨v, h0, h1, ao, len, cap, ws, rfl, hr, ht, hw⟩ := hc.cells
  have hnn : decide ((n : Int) < 0) = false := by simp
  rw [hnn] at h0
  rw [Int.natAbs_natCast] at hw
  have hl := len_le_of_lt ht (n := 1) (by rw [hw]; simpa using hn)
  have hL := hr.len
  have hlm := hr.lim
  have hsp : splice [Value.int .u32 0, Value.int .u32 0] 0 (W32 ws) = [.int .u32 (n : Nat), .int .u32 0] := by
    match ws, hl with
    | [], _ => have : n = 0 := by rw [← hw]; rfl
               subst this; rfl
    | [a], _ => have : n = a := by rw [← hw]; simp [wv]
                subst this; rfl
  have h0z := h0
  have HR := hid hr
  have HSP := hid hsp
  have HL := hid hl
  have HLN := hid hL
  clear hr ht hw hsp hl hc hn
  go_enter Try.func113, Try.ntmps113
  go_wp2_with (first
    | (at_make; refine wpList_make_full _ rfl _ _ 71 rfl w.heap.size 110 i0 (.int .u32 0) 1 Try.underlying71 hi hz0 hz1 _ _ _ _ 2 rfl rfl (by simp) (by simp) (by rw [hz2]; omega) (by unfold maxLen; omega) (Nat.le_refl _) ?_; intro w1 hown hgrow; have hb1 := (Below.refl w.heap.size w).grown hgrow (Nat.le_refl _) (fun k h => by cases h); have HB1 := hid hb1; rw [make32] at hown; have HH := hid (show w1.heap[w.heap.size]? = some (.cells ([Value.int .u32 0, Value.int .u32 0] : List Value).toArray 110 (0, 0)) from owns_two hown rfl); have h1' := (Below.cell hb1 (p := ⟨c, 1, none⟩) hcl).trans h1; have h0' := (Below.cell hb1 (p := ⟨c, 0, none⟩) hcl).trans h0; clear hown hgrow hb1 h0 h1)
    | (with_reducible refine wpList_copy_splice rfl (.tmp 10) (.tmp 14) _ _ rfl 110 Try.underlying71 (by rw [hi]; simp [hz1]) (some ⟨w.heap.size, 0, none⟩) ao 2 2 len cap rfl rfl w.heap.size 0 [.int .u32 0, .int .u32 0] 110 HH.out (W32 ws) ?c1 ?c2 ?c3 ?c4 w.heap.size w HB1.out (Nat.le_refl _) ?_))
  case c1 =>
    have h1 := HLN.out
    have h2 := HL.out
    show (W32 ws).length = min len 2
    simp only [W32, List.length_map]
    omega
  case c2 =>
    intro h0
    have h1 : 0 < len := by simpa [W32, HLN.out] using h0
    obtain ⟨g, off, rfl⟩ := HR.out.addr h1
    refine ⟨_, rfl, fun j u hj => ?_⟩
    have hjl : j < len := by
      have := (List.getElem?_eq_some_iff.mp hj).1
      rw [← HLN.out]
      simpa [W32] using this
    have := (HR.out.below HB1.out (Nat.le_refl _)).cell j hjl
    have h3 : (W32 ws)[j]? = some (.int .u32 (ws.getD j 0 : Nat)) := by
      have := HLN.out
      simp only [W32, List.getElem?_map]
      rw [List.getElem?_eq_getElem (by omega), getD_elem _ _ (by omega)]; rfl
    rw [h3] at hj
    rw [← hj, ← this]
    unfold Addr.add
    split
    · rename_i h0; subst h0; rfl
    · rfl
  case c3 =>
    have h1 := HL.out
    simp only [W32, List.length_map, List.length_cons, List.length_nil]
    omega
  case c4 => intro u hu; simp only [W32, List.mem_map] at hu; obtain ⟨x, _, rfl⟩ := hu; rfl
  · intro w2 HG2 hB2
    have HB2 := hid hB2
    have h0'' := (Below.cell hB2 (p := ⟨c, 0, none⟩) hcl).trans h0z
    rw [HSP.out] at HG2
    clear hB2 h1' h0'
    go_wp2
    go_ret
    exact ⟨rfl, HG2.out, HB2.out⟩

theorem rd_two {w : World} {g t : Nat} (hg : w.heap[g]? = some (.cells #[.int .u32 (t : Nat), .int .u32 0] 110 (0, 0))) (ht : t < 4294967296) : Rd w (some ⟨g, 0, none⟩) 2 2 [t, 0] :=
  ⟨rfl, Nat.le_refl _, by decide, by
    rw [wok_cons, wok_cons]; exact ⟨ht, by decide, wok_nil⟩, fun h => (by cases h), fun a ha => by
    obtain rfl := Option.some.inj ha
    refine ⟨rfl, _, _, hg, fun i hi => ?_⟩
    match i, hi with
    | 0, _ => rfl
    | 1, _ => rfl⟩

theorem of_two (w : World) (b g t : Nat) (hb : IntBlk w b) (hg : w.heap[g]? = some (.cells #[.int .u32 (t : Nat), .int .u32 0] 110 (0, 0))) (ht : t < 4294967296) :
    Calls Try.prog 114 #[.pointer (some ⟨b, 0, none⟩), .slice (some ⟨g, 0, none⟩) 2 2] w (Gives w b (t : Int)) := by
  have hr := rd_two hg ht
  have c1 : w.cell? ⟨g, 1, none⟩ = some (.int .u32 0) := by simp [World.cell?, hg]
  have KT := hid (trim_any w (some ⟨g, 0, none⟩) 2 2 [t, 0] hr)
  have HR := hid hr
  have HB := hid hb
  clear hr hb hg
  go_enter Try.func114, Try.ntmps114
  go_wp2_with (first
    | (go_at_call 112; (with_reducible refine KT.out.mono ?_); rintro e w' ⟨⟨k, hk, rfl, hv, htt⟩, rfl⟩; have HN := hid (show Nm w (.slice (some ⟨g, 0, none⟩) k 2) t from ⟨_, _, _, _, rfl, HR.out.take k hk, htt, by rw [hv]; simp [wv]⟩); clear htt hv hk)
    | (go_at_call 87; (with_reducible refine (give_any w b false _ t HB.out HN.out).mono ?_); rintro e w' ⟨rfl, hI, hG⟩; have GI := hid hI; have GG := hid hG; clear hI hG))
  go_ret
  exact ⟨rfl, by have := GI.out; simpa [sgn] using this, GG.out⟩

theorem setBit_small (w : World) (b c z i m : Nat) (hb : IntBlk w b) (hc : IntAt w c (z : Int)) (hz : z = m * 2 ^ (i + 1)) (hz2 : z + 2 ^ i < 4294967296) (hi : i < 32) :
    Calls Try.prog 96 #[.pointer (some ⟨b, 0, none⟩), .pointer (some ⟨c, 0, none⟩), .int .i64 (i : Nat), .int .u64 1] w (Gives w b ((z + 2 ^ i : Nat) : Int)) := by
  have hzl : z < 4294967296 := Nat.lt_of_le_of_lt (Nat.le_add_right _ _) hz2
  have KL := hid (low_two w c z hc hzl)
  have hcl := hc.lt
  obtain ⟨v, h0, h1, ao, len, cap, ws, rfl, hr, ht, hw⟩ := hc.cells
  rw [Int.natAbs_natCast] at hw
  have hl := len_le_of_lt ht (n := 1) (by rw [hw]; simpa using hzl)
  rw [hr.len] at hl
  have HB := hid hb
  have HC := hid hc
  clear hr ht hw hc hb h0
  have q1 : Int.tdiv (i : Int) 32 = 0 := Int.tdiv_eq_zero_of_lt (by omega) (by omega)
  have hb1 := or32 (or_top hz) hz2
  have hb2 := andnot32 hz hz2
  have hwp : IntKind.u64.wrap (i : Int) = (i : Int) := by rw [IntKind.wrap_u64]; omega
  have hrm : (i : Int) % 32 = i := by omega
  obtain ⟨p, hp⟩ : ∃ p, p = 2 ^ i := ⟨_, rfl⟩
  rw [← hp] at hb1 hb2
  have HZ2 := hid hz2
  have HZ := hid hz
  clear hz hz2
  have hb11 : bits BinOp.and IntKind.u64 1 1 = 1 := by decide
  have hpI : ((2 : Int) ^ i) = (p : Nat) := by rw [hp]; simp
  have hA : ((2 : Int) ^ i % 4294967296) = (p : Nat) := by rw [hpI]; have := HZ2.out; rw [← hp] at this; omega
  have hC : (bits BinOp.and IntKind.u64 1 1 % 4294967296 * 2 ^ i % 4294967296) = (p : Nat) := by rw [hb11, hpI]; have := HZ2.out; rw [← hp] at this; omega
  have HA := hid hA
  have HCC := hid hC
  have B1 := hid hb1
  have B2 := hid hb2
  have HP := hid hp
  clear hA hC hpI hb11 hb1 hb2 hp
  have fin : ∀ w', w'.heap[w.heap.size]? = some (.cells #[.int .u32 (z : Nat), .int .u32 0] 110 (0, 0)) → Below w.heap.size w w' → Calls Try.prog 114 #[.pointer (some ⟨b, 0, none⟩), .slice (some ⟨w.heap.size, 0, none⟩) 2 2] ((w'.setCell { block := w.heap.size, off := 0 } (Value.int IntKind.u32 (bits BinOp.andNot IntKind.u32 (↑z) (2 ^ i % 4294967296)))).setCell { block := w.heap.size, off := 0 } (Value.int IntKind.u32 (bits BinOp.or IntKind.u32 (bits BinOp.andNot IntKind.u32 (↑z) (2 ^ i % 4294967296)) (bits BinOp.and IntKind.u64 1 1 % 4294967296 * 2 ^ i % 4294967296)))) (Gives w b ((z + p : Nat) : Int)) := by
    intro w' hh hB
    rw [HA.out, HCC.out, B2.out, B1.out]
    have e1 := heap_setCell_same w' w.heap.size 0 #[.int .u32 (z : Nat), .int .u32 0] 110 (Value.int .u32 (z : Nat)) hh
    have e2 := heap_setCell_same _ w.heap.size 0 _ 110 (Value.int .u32 ((z + p : Nat) : Int)) e1
    have hbel := (hB.setCell (p := ⟨w.heap.size, 0, none⟩) (Nat.le_refl _) (Value.int .u32 (z : Nat))).setCell (p := ⟨w.heap.size, 0, none⟩) (Nat.le_refl _) (Value.int .u32 ((z + p : Nat) : Int))
    refine (of_two _ b w.heap.size (z + p) (HB.out.below hbel (Nat.le_refl _)) (by rw [e2]; rfl) (by have := HZ2.out; rw [← HP.out] at this; exact this)).mono ?_
    rintro e w2 ⟨rfl, hI, hG⟩
    exact ⟨rfl, hI, grownBy_trans (grownBy_of_below hbel (Nat.le_refl _) _) hG⟩
  have FIN := hid fin
  clear fin
  obtain rfl | rfl : len = 0 ∨ len = 1 := by omega
  · go_enter Try.func96, Try.ntmps96
    go_wp2_with (first
      | (go_at_call 113; (with_reducible refine KL.out.mono ?_); rintro e w' ⟨rfl, hh, hB⟩; have KF := hid (FIN.out w' hh hB); have c0 : w'.cell? ⟨w.heap.size, 0, none⟩ = some (.int .u32 z) := (by simp [World.cell?, hh]); have f0 : w'.frozen? ⟨w.heap.size, 0, none⟩ = false := (by simp [World.frozen?, hh]); clear hh hB)
      | (go_at_call 114; (with_reducible refine KF.out.mono ?_); rintro e w2 ⟨rfl, hI, hG⟩; have GI := hid hI; have GG := hid hG; clear hI hG))
    go_ret
    rw [← HP.out]
    exact ⟨rfl, GI.out, GG.out⟩
  · go_enter Try.func96, Try.ntmps96
    go_wp2_with (first
      | (go_at_call 113; (with_reducible refine KL.out.mono ?_); rintro e w' ⟨rfl, hh, hB⟩; have KF := hid (FIN.out w' hh hB); have c0 : w'.cell? ⟨w.heap.size, 0, none⟩ = some (.int .u32 z) := (by simp [World.cell?, hh]); have f0 : w'.frozen? ⟨w.heap.size, 0, none⟩ = false := (by simp [World.frozen?, hh]); clear hh hB)
      | (go_at_call 114; (with_reducible refine KF.out.mono ?_); rintro e w2 ⟨rfl, hI, hG⟩; have GI := hid hI; have GG := hid hG; clear hI hG))
    go_ret
    rw [← HP.out]
    exact ⟨rfl, GI.out, GG.out⟩
end Go.Proofs.Ytniechgbbkkncaa
