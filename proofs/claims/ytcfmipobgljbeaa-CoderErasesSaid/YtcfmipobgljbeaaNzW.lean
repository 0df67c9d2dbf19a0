/- Package conceal's noise, and the reference's noises. -/
import Derived.Test.YtcfmipobgljbeaaNoiseR
import Derived.Test.YtcfmipobgljbeaaKeepW
import Derived.Test.YtcfmipobgljbeaaPushN
import Derived.Test.YtcfmipobgljbeaaMakeI
namespace Go.Proofs.Ytcfmipobgljbeaa
set_option linter.unusedVariables false
set_option linter.unusedSimpArgs false
set_option maxRecDepth 100000
open Go.RowKit

/-! Plain facts. -/
def nzE (s : Int) : Nat → Int
  | 0 => s
  | k + 1 => nzE (nzS s) k
def nzL (s z : Int) : Nat → List Int
  | 0 => []
  | k + 1 => nzX s z :: nzL (nzS s) z k
theorem nzE_succ (s : Int) (k : Nat) : nzE s (k + 1) = nzS (nzE s k) := by
  induction k generalizing s with
  | zero => rfl
  | succ k ih => rw [nzE, ih, nzE]
theorem nzL_succ (s z : Int) (k : Nat) : nzL s z (k + 1) = nzL s z k ++ [nzX (nzE s k) z] := by
  induction k generalizing s with
  | zero => rfl
  | succ k ih => rw [nzL, ih, nzL]; rfl
theorem nzL_len (s z : Int) (k : Nat) : (nzL s z k).length = k := by
  induction k generalizing s with
  | zero => rfl
  | succ k ih => simp [nzL, ih]
theorem nzX_range (s z : Int) : -32768 ≤ nzX s z ∧ nzX s z ≤ 32767 := by
  have h1 := nzS_range s
  have h2 := nzZ_range z
  have h3 : -1073709056 ≤ (nzS s - 32768) * nzZ z ∧ (nzS s - 32768) * nzZ z ≤ 1073709056 := by
    have e1 : (nzS s - 32768) * nzZ z ≤ 32767 * nzZ z := Int.mul_le_mul_of_nonneg_right (by omega) h2.1
    have e2 : (-32768) * nzZ z ≤ (nzS s - 32768) * nzZ z := Int.mul_le_mul_of_nonneg_right (by omega) h2.1
    omega
  unfold nzX
  omega
theorem nzL_in (s z : Int) (k : Nat) : all16 (nzL s z k) = true := by
  unfold all16
  rw [List.all_eq_true]
  intro x hx
  induction k generalizing s with
  | zero => cases hx
  | succ k ih =>
    rcases List.mem_cons.1 hx with rfl | h
    · have := nzX_range s z
      exact ok16_yes this.1 this.2
    · exact ih _ h
theorem nzE_range {s : Int} (h1 : -9223372036854775808 ≤ s) (h2 : s ≤ 9223372036854775807) (k : Nat) : -9223372036854775808 ≤ nzE s k ∧ nzE s k ≤ 9223372036854775807 := by
  induction k generalizing s with
  | zero => exact ⟨h1, h2⟩
  | succ k ih => have := nzS_range s; exact ih (by omega) (by omega)
theorem fill_next (s z : Int) (n k : Nat) (h : k < n) : (nzL s z k ++ List.replicate (n - k) 0).set k (nzX (nzE s k) z) = nzL s z (k + 1) ++ List.replicate (n - (k + 1)) 0 := by
  have hl := nzL_len s z k
  obtain ⟨d, rfl⟩ : ∃ d, n = k + 1 + d := ⟨n - (k + 1), by omega⟩
  have e : k + 1 + d - k = d + 1 := by omega
  have e2 : k + 1 + d - (k + 1) = d := by omega
  rw [e, e2, List.replicate_succ, List.set_append_right _ _ (by omega), hl, Nat.sub_self, List.set_cons_zero, nzL_succ, List.append_assoc]
  rfl
theorem fill_len (s z : Int) (n k : Nat) (h : k ≤ n) : (nzL s z k ++ List.replicate (n - k) 0).length = n := by rw [List.length_append, nzL_len, List.length_replicate]; omega

theorem own_lit1' (w : World) (v : Int) (base : Nat) (hb : base ≤ w.heap.size) : Own (w.alloc (.cells #[.int .i64 v] 3)) base (some ⟨w.heap.size, 0, none⟩) 1 [v] :=
  World.ownsRow_lit (base := base) (e := 3) (size := 1) w #[.int .i64 v] 1 hb (by unfold maxLen; omega) rfl
def NzA (w : World) (s z : Int) (n : Nat) (e : Ending) (w' : World) : Prop := ∃ A c, e = .returned (.tuple #[.int .i64 (nzE s n), .slice A n c]) ∧ Own w' w.heap.size A c (nzL s z n) ∧ Below w.heap.size w w'

set_option maxHeartbeats 2000000 in
theorem cnoise_any (s z : Int) (n : Nat) (w : World) (hn : n ≤ 1000) : Calls Try.prog 87 #[.int .i64 s, .int .i64 z, .int .i64 n] w (NzA w s z n) := by
  have hn2 : (n : Int) ≤ 1000 := by omega
  go_enter Try.func87, Try.ntmps87
  go_wp2_with (at_make; refine wpList_makeI rfl _ _ rfl .i64 .i64 n rfl rfl w.heap.size (by omega) (Nat.le_refl _) ?_; intro w1 hO hG; have O1 := hid hO; have B1 := hid ((Below.refl w.heap.size w).grown hG (Nat.le_refl _) (by simp)); clear hO hG)
  go_loopw [0, 14] (fun sv iv wr => ∃ (k : Nat), k ≤ n ∧ iv = .int .i64 k ∧ sv = .int .i64 (nzE s k) ∧ Hid (Own wr w.heap.size (some ⟨w.heap.size, 0, none⟩) n (nzL s z k ++ List.replicate (n - k) 0)) ∧ Hid (Below w.heap.size w wr)) (fun _ iv _ => n - (intOf iv).toNat)
  case atStart => exact ⟨0, by omega, rfl, rfl, O1, B1⟩
  case round =>
    clear O1 B1
    obtain ⟨k, hk, rfl, rfl, HO, HB⟩ := hrel
    by_cases hlt : k < n
    · have HL := hid (fill_len s z n k hk)
      have co := HO.out.cell k (by rw [HL.out]; exact hlt)
      have fo := HO.out.frozen k
      have NO := hid (show Own _ _ _ _ _ from by have := HO.out.set_ k (by rw [HL.out]; exact hlt) (nzX (nzE s k) z); rwa [fill_next s z n k hlt] at this)
      have NB := hid (HB.out.setCell (p := ⟨w.heap.size, k, none⟩) (Nat.le_refl _) (.int .i64 (nzX (nzE s k) z)))
      have hkn : (k : Int) < n := by omega
      have NE := hid (nzE_succ s k)
      have KN := hid (fun W => noise_any (nzE s k) z W)
      generalize nzX (nzE s k) z = x at *
      generalize (nzL s z k ++ List.replicate (n - k) 0).getD k 0 = x0 at *
      generalize hE : nzE s k = E at *
      clear hE
      go_wp2_with (go_at_call 111; refine (KN.out _).mono ?_; rintro e w' ⟨rfl, rfl⟩)
      go_roundw
      case rel => exact ⟨k + 1, by omega, by go_num, by rw [NE.out], NO, NB⟩
      case measure => simp [intOf] <;> omega
    · obtain rfl : k = n := by omega
      have OF := hid (show Own wr w.heap.size (some ⟨w.heap.size, 0, none⟩) k (nzL s z k) from by have := HO.out; rwa [Nat.sub_self, List.replicate_zero, List.append_nil] at this)
      clear HO
      go_wp2
      go_ret2
      exact ⟨_, _, rfl, OF.out, HB.out⟩
set_option maxHeartbeats 2000000 in
theorem refNoises_any (z : Int) : ∀ (n : Nat) (s : Int) (w : World), n ≤ 1000 → -9223372036854775808 ≤ s → s ≤ 9223372036854775807 → Calls Try.prog 95 #[.int .i64 s, .int .i64 z, .int .i64 n] w (NzA w s z n)
  | 0, s, w, _, _, _ => by
    go_enter Try.func95, Try.ntmps95
    go_wp2
    go_ret2
    exact ⟨none, 0, rfl, Own.nil, Below.refl _ _⟩
  | n + 1, s, w, hn, h1, h2 => by
    have K1 := hid (fun W => refNoise_any s z W h1 h2)
    have K2 := hid (fun W => refNoises_any z n (nzS s) W (by omega) (by have := nzS_range s; omega) (by have := nzS_range s; omega))
    obtain ⟨m, hm⟩ : ∃ m, m = n + 1 := ⟨_, rfl⟩
    rw [← hm]
    have d1 : ((m : Int) == 0) = false := by simp; omega
    have d2 : ¬ (m : Int) = 0 := by omega
    have hw1 : IntKind.i64.wrap ((m : Int) - 1) = (n : Nat) := by rw [IntKind.wrap_i64]; omega
    have HM := hid hm
    clear hm h1 h2
    go_enter Try.func95, Try.ntmps95
    go_wp2_with fail
    refine (K1.out _).mono ?_
    rintro e w1 ⟨rfl, hB⟩
    have B1 := hid hB
    clear hB
    go_wp2_with fail
    refine (K2.out _).mono ?_
    rintro e w2 ⟨A2, c2, rfl, hO, hB⟩
    have B2 := hid (B1.out.trans (hB.mono B1.out.size))
    have R2 := hid hO.reads
    have NL := hid (nzL_len (nzS s) z n)
    clear hO hB B1
    have LE := hid B2.out.size
    have F1 := hid (show nzE s m = nzE (nzS s) n by rw [HM.out]; rfl)
    have F2 := hid (show nzL s z m = [nzX s z] ++ nzL (nzS s) z n by rw [HM.out]; rfl)
    generalize nzL (nzS s) z n = l at *
    generalize nzE (nzS s) n = E at *
    generalize nzX s z = x at *
    go_wp2_with (at_builtin; refine wpList_catN rfl (.tmp 30) (.tmp 31) rfl w.heap.size (some ⟨w2.heap.size, 0, none⟩) 1 1 [x] rfl rfl (own_lit1' w2 x _ LE.out) w2.heap.size A2 c2 n l rfl NL.out (R2.out.below ((Below.refl _ _).alloc (Nat.le_refl _) _)) (by omega) (by simp; have := LE.out; omega) ?_; intro A3 c3 w5 hO hG hA; have O5 := hid hO; have B5 := hid ((B2.out.alloc LE.out (.cells #[.int .i64 x] 3)).grown hG (by simp; have := LE.out; omega) (fun k hk => by injection hk with hk; have := LE.out; show w.heap.size ≤ k; rw [← hk]; exact LE.out)); clear hO hG hA)
    go_ret2
    exact ⟨A3, c3, by rw [F1.out, HM.out, Nat.add_comm n 1]; rfl, by rw [F2.out]; exact O5.out, B5.out⟩
end Go.Proofs.Ytcfmipobgljbeaa
