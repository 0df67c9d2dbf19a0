/- The walk of the law PackPacks. -/
import Derived.Test.YtnbenmpjpogldaaDoorPkR
import Derived.Test.YtnbenmpjpogldaaDoorPkGL
import Derived.Laws.BytesArg
namespace Go.Proofs.YtnbenmpjpogldaaDoor
set_option linter.unusedVariables false
set_option linter.unusedSimpArgs false
set_option maxRecDepth 100000
open Go.RowKit

theorem conv_rb {w : World} {B n c : Nat} {A : Option Addr} {ys : List Int} (h : Rb w B A ys) (hn : ys.length = n) :
    (convert 31 9 (.slice A n c)).run Tryd.prog w = .ok (.string (strOfNums ys)) w := by
  subst hn
  rw [run_convert_bytes_string w 31 9 5 A ys.length c Tryd.underlying31 Tryd.underlying5 Tryd.underlying9]
  cases A with
  | none =>
    have h0 : ys = [] := by
      rcases Nat.eq_zero_or_pos ys.length with h0 | h0
      · exact List.eq_nil_of_length_eq_zero h0
      · obtain ⟨ad, e, _⟩ := h.2 h0
        cases e
    subst h0
    simp [Conv.bytesToString]
    rfl
  | some a =>
    have hl := run_loadCells_list (P := Tryd.prog) w a (bts ys) (fun j v hv => by
      have hj : j < (bts ys).length := (List.getElem?_eq_some_iff.1 hv).1
      rw [bts_len] at hj
      obtain ⟨ad, e, _, hc⟩ := h.2 (by omega)
      injection e with e
      subst e
      exact hc j v hv)
    rw [bts_len] at hl
    rw [run_bytesToString w a ys.length c ys hl, foldl_push_bytes]
    simp [strOfNums, ByteArray.empty, ByteArray.emptyWithCapacity]
    rfl
theorem z25_bytes : (pkBytes Z25).length = 15 := by
  unfold pkBytes
  rw [if_pos z25_good, List.length_append, digL_len]
  rfl

set_option maxHeartbeats 4000000 in
theorem walkPackPacks (w : World) (TA : TabA w 1 widthL) (TS : TabS w 0 widthL) (ps : List Int) (hl : ps.length = 25) (hw : W64 ps) :
    Calls Tryd.prog 4 #[.agg (agi ps)] w fun e w' => e = .returned (.bool true) ∧ Below w.heap.size w w' := by
  have B0 := (Below.refl w.heap.size w).alloc (Nat.le_refl _) (.cells (agi ps) 28)
  have T := hid (show PG w (w.alloc (.cells (agi ps) 28)) ps from ⟨IB.new w _ ps, TA.below B0, TS.below B0, B0⟩)
  have K1 := hid (fun W (h : PG w W ps) => packPack_any ps W h.A hl hw)
  have K2 := hid (fun W (h : PG w W ps) => refPack_any ps W h.S hl hw)
  have K3 := hid (fun W (h : PG w W ps) => show Calls Tryd.prog 10 #[.agg #[.int .i64 0, .int .i64 0, .int .i64 0, .int .i64 0, .int .i64 0, .int .i64 0, .int .i64 0, .int .i64 0, .int .i64 0, .int .i64 0, .int .i64 0, .int .i64 0, .int .i64 0, .int .i64 0, .int .i64 0, .int .i64 0, .int .i64 0, .int .i64 0, .int .i64 0, .int .i64 0, .int .i64 0, .int .i64 0, .int .i64 0, .int .i64 0, .int .i64 0]] W (fun e w' => ∃ A c, e = .returned (.tuple #[.slice A 15 c, .int .i64 (pkErr Z25)]) ∧ Below W.heap.size W w') from (packPack_any Z25 W h.A z25_len (fun x hx => by rw [List.eq_of_mem_replicate hx]; omega)).mono fun e w' ⟨A, c, h1, _, h3⟩ => ⟨A, c, by rw [h1, z25_bytes], h3⟩)
  unfold PkOut at K1 K2
  obtain ⟨n, hn⟩ : ∃ n, n = (pkBytes ps).length := ⟨_, rfl⟩
  rw [← hn] at K1 K2
  have HN := hid hn.symm
  generalize pkBytes ps = ys at *
  generalize pkErr ps = er at *
  generalize pkErr Z25 = e3 at *
  have HL := hid hl
  obtain ⟨V, hV⟩ : ∃ V, V = w.alloc (.cells (agi ps) 28) := ⟨_, rfl⟩
  rw [← hV] at T
  have HV := hid hV
  clear hV B0 TA TS hl hw hn
  go_enter Tryd.func4, Tryd.ntmps4
  go_wp2_with (first
    | (rw [← HV.out]; clear HV)
    | (refine wpList_loadI rfl 28 (.tmp 1) rfl _ 28 ps 25 _ rfl T.out.P Tryd.underlying28 rfl size25 HL.out ?_)
    | (go_at_call 10; (with_reducible refine (K1.out V T.out).mono ?_); rintro e w1 ⟨A1, c1, rfl, hR, hB⟩; have R1 := hid hR; have T1 := hid (T.out.below hB); clear hR hB)
    | (refine wpList_loadI rfl 28 (.tmp 1) rfl _ 28 ps 25 _ rfl T1.out.P Tryd.underlying28 rfl size25 HL.out ?_)
    | (go_at_call 11; (with_reducible refine (K2.out w1 T1.out).mono ?_); rintro e w2 ⟨A2, c2, rfl, hR, hB⟩; have R2 := hid hR; have Q2 := hid ((R1.out.below hB).more hB.size); have T2 := hid (T1.out.below hB); clear hR hB)
    | (go_at_call 10; (with_reducible refine (K3.out w2 T2.out).mono ?_); rintro e w3 ⟨A3, c3, rfl, hB⟩; have T3 := hid (T2.out.below hB); have e1 := conv_rb (c := c1) (Q2.out.below hB) HN.out; have e2 := conv_rb (c := c2) (R2.out.below hB) HN.out; clear hB))
  go_ret
  exact ⟨by simp, T3.out.B⟩
end Go.Proofs.YtnbenmpjpogldaaDoor
