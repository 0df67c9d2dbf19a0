/- The walk of the law DeskNil. -/
import Derived.Test.YtcfmipobgljbeaaDoorByt
import Derived.Test.YtcfmipobgljbeaaDoorRow
import Derived.Test.YtcfmipobgljbeaaDoorSliceW
namespace Go.Proofs.YtcfmipobgljbeaaDoor
set_option linter.unusedVariables false
set_option linter.unusedSimpArgs false
set_option maxRecDepth 100000
open Go.RowKit

def callC (k v : Int) (r : Bool) (A : Option Addr) (n c : Nat) (A2 : Option Addr) (n2 c2 : Nat) : Array Value := #[.int .i64 k, .int .i64 v, .bool r, .slice A n c, .slice A2 n2 c2]
theorem one_call (k v : Int) (r : Bool) (A : Option Addr) (n c : Nat) (A2 : Option Addr) (n2 c2 : Nat) : (callC k v r A n c A2 n2 c2).all (·.oneCell') = true := by
  rw [Array.all_eq_true_iff_forall_mem]
  intro u hu
  unfold callC at hu
  simp only [List.mem_toArray, List.mem_cons, List.not_mem_nil, or_false] at hu
  rcases hu with rfl | rfl | rfl | rfl | rfl <;> rfl
theorem sizeCall : (Tryd.prog.info? 25).map (·.size) = some 5 := by kernel_rfl
theorem sizeAns : (Tryd.prog.info? 29).map (·.size) = some 4 := by kernel_rfl
theorem Own.of_grown {w w' : World} {base c : Nat} {A : Option Addr} {xs : List Int} (h : Own w base A c xs) (hg : w.grownBy w' none) : Own w' base A c xs := h.kept hg (fun a _ => by simp)
theorem OwnB.kept {w w' : World} {base c : Nat} {A : Option Addr} {xs : List Int} {row : Option Nat} (h : OwnB w base A c xs) (hg : w.grownBy w' row) (hne : ∀ a, A = some a → some a.block ≠ row) : OwnB w' base A c xs :=
  World.ownsRow.kept h hg (by
    cases A with
    | none => exact .inl rfl
    | some a => exact .inr (hne a rfl))
theorem OwnB.setRow {w : World} {base c g : Nat} {A : Option Addr} {xs : List Int} (h : OwnB w base A c xs) (hg : g < base) (cs : Array Value) : OwnB (w.setRow g cs) base A c xs :=
  h.kept (row := some g) ⟨rfl, rfl, rfl, by simp [World.setRow], fun i _ hn => setRow_other w g i cs (by intro e; subst e; exact hn rfl)⟩ (fun ad e h2 => by
    injection h2 with h2
    exact h.ne_ hg ad e h2)
theorem OwnB.setC {w : World} {base c g : Nat} {A : Option Addr} {xs : List Int} (h : OwnB w base A c xs) (hg : g < base) (i : Nat) (v : Value) : OwnB (w.setCell ⟨g, i, none⟩ v) base A c xs :=
  h.kept (row := some g) ⟨rfl, rfl, rfl, by simp [World.setCell], fun j _ hn => Below.heap_setCell _ _ _ j (by simpa using hn)⟩ (fun ad e h2 => by
    injection h2 with h2
    exact h.ne_ hg ad e h2)
theorem OwnB.more {w : World} {base base' c : Nat} {A : Option Addr} {xs : List Int} (h : OwnB w base A c xs) (hb : base' ≤ base) : OwnB w base' A c xs := by
  refine ⟨h.1, ?_⟩
  rcases h.2 with hn | ⟨g, cap, cur, hv, hbb, rest⟩
  · exact .inl hn
  · exact .inr ⟨g, cap, cur, hv, by omega, rest⟩
/-- The answer that lies in a block of any cells. -/
theorem results_any1 {fn : Func} {p : Tmp} {ty : TypeId} (h : fn.results = #[.cell p ty]) (tmps : Array Value) (w : World) (g : Nat) (cs : Array Value) (d : TypeDesc)
    (hp : tmps.getD p undef = .pointer (some ⟨g, 0, none⟩)) (hg : Blk w g ty cs) (hu : Tryd.prog.underlying ty = some d) (hd : isAggD d = true) (hi : (Tryd.prog.info? ty).map (·.size) = some cs.size) :
    (results fn tmps).run Tryd.prog w = .ok (.agg cs) w := by
  have hp' : tmps[p]?.getD undef = .pointer (some ⟨g, 0, none⟩) := by simpa using hp
  have hr := run_loadVar_row (P := Tryd.prog) w g ty ty cs (0, 0) d hg hu (by cases d <;> first | rfl | (simp [isAggD] at hd)) hi
  simp [results, h, hp', asAddr, hr]
section
variable {ops : Array Oper} {rest : List Oper} {o : Oper} {a : Act} {w : World} {Q : Exit → Act → World → Prop}
theorem wpList_storeC (hgd : o.guard = none) (ty : TypeId) (x y : Operand) (ho : o.op = .store ty x y) (g : Nat) (t : TypeId) (c0 cs : Array Value) (hx : a.eval x = .pointer (some ⟨g, 0, none⟩)) (hy : a.eval y = .agg cs) (h : Blk w g t c0)
    (hi : (Tryd.prog.info? ty).map (·.size) = some cs.size) (hs : c0.size = cs.size) (h1 : cs.all (·.oneCell') = true) (k : wpList Tryd.prog ops Q rest (a.put o.dst undef) (w.setRow g cs)) : wpList Tryd.prog ops Q (o :: rest) a w :=
  wpList_store_row hgd ty x y ho g cs hx hy t c0 h hi hs h1 k
theorem wpList_loadC (hw : Region.wanted o (yielded ops a.tmps) = true) (ty : TypeId) (x : Operand) (ho : o.op = .load ty x) (g : Nat) (t : TypeId) (cs : Array Value) (d : TypeDesc) (hx : a.eval x = .pointer (some ⟨g, 0, none⟩)) (h : Blk w g t cs)
    (hu : Tryd.prog.underlying ty = some d) (hd : isAggD d = true) (hi : (Tryd.prog.info? ty).map (·.size) = some cs.size) (k : wpList Tryd.prog ops Q rest (a.put o.dst (.agg cs)) w) : wpList Tryd.prog ops Q (o :: rest) a w :=
  Go.BigFrame.wpList_want hw fun K hK => wp_load_row ty x ho g hx t cs (0, 0) d h hu (by cases d <;> first | rfl | (simp [isAggD] at hd)) hi (hK _ _ k)
theorem Blk.setRow_ {g : Nat} {t : TypeId} {c0 : Array Value} (h : Blk w g t c0) (cs : Array Value) : Blk (w.setRow g cs) g t cs := setRow_heap w g _ _ t _ h
end

set_option maxHeartbeats 2000000 in
theorem call_any (k v : Int) (r : Bool) (A A2 : Option Addr) (n c n2 c2 : Nat) (xs bs : List Int) (w : World) (hr : Rs w w.heap.size A xs) (hn : xs.length = n) (hb : Rb w w.heap.size A2 bs) (hn2 : bs.length = n2) (h1 : n ≤ 17592186044416) (h2 : n2 ≤ 140737488355328) :
    Calls Tryd.prog 8 #[.agg (callC k v r A n c A2 n2 c2)] w (fun e w' => ∃ A3 c3 A4 c4, e = .returned (.agg (callC k v r A3 n c3 A4 n2 c4)) ∧ Own w' w.heap.size A3 c3 xs ∧ OwnB w' w.heap.size A4 c4 bs ∧ Below w.heap.size w w') := by
  have hR := results_any1 (fn := Tryd.f8) (p := 2) (ty := 25) rfl
  have KI := hid (fun W (h : Rs W W.heap.size A xs) => show Calls Tryd.prog 22 #[.slice A n c] W (fun e w' => ∃ A1 c1, e = .returned (.slice A1 n c1) ∧ Own w' W.heap.size A1 c1 xs ∧ Below W.heap.size W w') from by
    have := ints_any A c xs W h (by omega)
    rw [← hn]
    exact this)
  have B0 := hid (((Below.refl w.heap.size w).alloc (Nat.le_refl _) (.cells (callC k v r A n c A2 n2 c2) 25)).alloc (by simp) (.cells #[.int .i64 0, .int .i64 0, .bool false, .slice none 0 0, .slice none 0 0] 25))
  have J0 := hid (Blk.alloc (Blk.new w 25 (callC k v r A n c A2 n2 c2)) (.cells #[.int .i64 0, .int .i64 0, .bool false, .slice none 0 0, .slice none 0 0] 25))
  have Z0 := Blk.new (w.alloc (.cells (callC k v r A n c A2 n2 c2) 25)) 25 #[.int .i64 0, .int .i64 0, .bool false, .slice none 0 0, .slice none 0 0]
  simp only [World.size_alloc] at Z0
  have Z0 := hid Z0
  rename_i Z0r
  clear Z0r
  have HN := hid hn
  have HN2 := hid hn2
  have HB := hid hb
  unfold callC at B0 J0 Z0 ⊢
  obtain ⟨W, hW⟩ : ∃ W, W = (w.alloc (.cells #[.int .i64 k, .int .i64 v, .bool r, .slice A n c, .slice A2 n2 c2] 25)).alloc (.cells #[.int .i64 0, .int .i64 0, .bool false, .slice none 0 0, .slice none 0 0] 25) := ⟨_, rfl⟩
  rw [← hW] at B0 J0 Z0
  have R0 := hid ((hr.below B0.out).more B0.out.size)
  have HW := hid hW
  clear hr hb hn hn2 hW
  have c3 := Blk.cell J0.out 3
  go_enter Tryd.func8, Tryd.ntmps8
  go_wp2_with (first | rw [← HW.out] | fail)
  first | rw [← HW.out] | skip
  refine (KI.out W R0.out).mono ?_
  rintro e w1 ⟨A3, d3, rfl, hO, hB⟩
  have J1 := hid (Blk.below' J0.out hB)
  have Z1 := hid (Blk.below' Z0.out hB)
  have B1 := hid (B0.out.trans (hB.mono B0.out.size))
  have O1 := hid (hO.more (base' := w.heap.size) B0.out.size)
  have LW := hid (Blk.lt Z0.out)
  have ON := hid hO
  clear hO hB J0 Z0 R0 KI c3
  have c3 := Blk.cell J1.out 3
  have f3 := Blk.frozen J1.out 3
  have J2 := hid (show Blk (w1.setCell ⟨w.heap.size, 3, none⟩ (.slice A3 n d3)) w.heap.size 25 #[.int .i64 k, .int .i64 v, .bool r, .slice A3 n d3, .slice A2 n2 c2] from Blk.set_ J1.out 3 _)
  have Z2 := hid (Blk.far Z1.out (p := ⟨w.heap.size, 3, none⟩) (by show w.heap.size + 1 ≠ w.heap.size; omega) (.slice A3 n d3))
  have B2 := hid (B1.out.setCell (p := ⟨w.heap.size, 3, none⟩) (Nat.le_refl _) (.slice A3 n d3))
  have O2 := hid (Own.setC ON.out (g := w.heap.size) (by have := LW.out; omega) 3 (.slice A3 n d3))
  obtain ⟨w2, hw2⟩ : ∃ w2, w2 = w1.setCell ⟨w.heap.size, 3, none⟩ (.slice A3 n d3) := ⟨_, rfl⟩
  rw [← hw2] at J2 Z2 B2 O2
  have HW2 := hid hw2
  clear hw2 J1 Z1 B1
  have c4 := Blk.cell J2.out 4
  have s2 := B2.out.size
  go_wp2_with (first
    | rw [← HW2.out]
    | (at_builtin; refine wpList_catB rfl (.const (.slice none 0 0)) (.tmp 8) rfl w2.heap.size none 0 0 [] rfl rfl OwnB.nil w2.heap.size A2 c2 n2 bs rfl HN2.out ((HB.out.below B2.out).more s2) (by omega) (Nat.le_refl _) ?_
       intro A4 c4' w3 hO hG
       simp only [List.nil_append, Nat.zero_add] at hO
       have hL := (Below.refl w2.heap.size w2).grown hG (Nat.le_refl _) (by simp)
       have J3 := hid (Blk.below' J2.out hL)
       have Z3 := hid (Blk.below' Z2.out hL)
       have B3 := hid (B2.out.trans (hL.mono s2))
       have O3 := hid (O2.out.below hL)
       have P3 := hid hO
       clear hO hG hL
       have e4 := Blk.cell J3.out 4
       have f4 := Blk.frozen J3.out 4
       have LT3 := hid (Blk.lt Z3.out)
       have S23 := hid (show w.heap.size < w2.heap.size by have := Blk.lt Z2.out; omega)
       have J4 := hid (show Blk (w3.setCell ⟨w.heap.size, 4, none⟩ (.slice A4 n2 c4')) w.heap.size 25 #[.int .i64 k, .int .i64 v, .bool r, .slice A3 n d3, .slice A4 n2 c4'] from Blk.set_ J3.out 4 _)
       have Z4 := hid (Blk.far Z3.out (p := ⟨w.heap.size, 4, none⟩) (by show w.heap.size + 1 ≠ w.heap.size; omega) (.slice A4 n2 c4'))
       have B4 := hid (B3.out.setCell (p := ⟨w.heap.size, 4, none⟩) (Nat.le_refl _) (.slice A4 n2 c4'))
       have O4 := hid (Own.setC O3.out (g := w.heap.size) (by have := LW.out; omega) 4 (.slice A4 n2 c4'))
       have P4 := hid (OwnB.setC P3.out (g := w.heap.size) S23.out 4 (.slice A4 n2 c4')))
    | (refine wpList_loadC rfl 25 (.tmp 1) rfl _ 25 _ _ rfl J4.out Tryd.underlying25 rfl sizeCall ?_)
    | (refine wpList_storeC rfl 25 (.tmp 2) (.tmp 11) rfl _ 25 _ #[.int .i64 k, .int .i64 v, .bool r, .slice A3 n d3, .slice A4 n2 c4'] rfl rfl Z4.out sizeCall rfl (one_call k v r A3 n d3 A4 n2 c4') ?_))
  have RF := hid (Blk.setRow_ Z4.out #[.int .i64 k, .int .i64 v, .bool r, .slice A3 n d3, .slice A4 n2 c4'])
  have BF := hid (below_setRow B4.out (g := w.heap.size + 1) (by omega) #[.int .i64 k, .int .i64 v, .bool r, .slice A3 n d3, .slice A4 n2 c4'])
  have OF := hid ((Own.setRow O4.out (g := w.heap.size + 1) (by have := LW.out; omega) #[.int .i64 k, .int .i64 v, .bool r, .slice A3 n d3, .slice A4 n2 c4']).more (base' := w.heap.size) (by have := LW.out; omega))
  have PF := hid ((OwnB.setRow P4.out (g := w.heap.size + 1) (by have := Blk.lt Z2.out; omega) #[.int .i64 k, .int .i64 v, .bool r, .slice A3 n d3, .slice A4 n2 c4']).more (base' := w.heap.size) (by have := S23.out; omega))
  refine bodyPost_ret (v := _) (hR _ _ _ _ _ rfl RF.out Tryd.underlying25 rfl sizeCall) rfl ?_
  exact ⟨A3, d3, A4, c4', rfl, OF.out, PF.out, BF.out⟩

def ansC (code v : Int) (A : Option Addr) (n c : Nat) (A2 : Option Addr) (n2 c2 : Nat) : Array Value := #[.int .i64 code, .int .i64 v, .slice A n c, .slice A2 n2 c2]
theorem one_ans (k v : Int) (A : Option Addr) (n c : Nat) (A2 : Option Addr) (n2 c2 : Nat) : (ansC k v A n c A2 n2 c2).all (·.oneCell') = true := by
  rw [Array.all_eq_true_iff_forall_mem]
  intro u hu
  unfold ansC at hu
  simp only [List.mem_toArray, List.mem_cons, List.not_mem_nil, or_false] at hu
  rcases hu with rfl | rfl | rfl | rfl <;> rfl

set_option maxHeartbeats 2000000 in
theorem doNil_any (k v : Int) (r : Bool) (A A2 : Option Addr) (n c n2 c2 : Nat) (w : World) :
    Calls Tryd.prog 7 #[.pointer none, .agg (callC k v r A n c A2 n2 c2)] w (fun e w' => e = .returned (.agg (ansC 6 v none 0 0 none 0 0)) ∧ Below w.heap.size w w') := by
  have hR := results_any1 (fn := Tryd.f7) (p := 4) (ty := 29) rfl
  have BF := hid ((((Below.refl w.heap.size w).alloc (Nat.le_refl _) (.cells (callC k v r A n c A2 n2 c2) 25)).alloc (by simp) (.cells (ansC 6 v none 0 0 none 0 0) 29)).alloc (by simp; omega) (.cells (ansC 6 v none 0 0 none 0 0) 29))
  have Z0 := Blk.new (w.alloc (.cells (callC k v r A n c A2 n2 c2) 25)) 29 (ansC 6 v none 0 0 none 0 0)
  simp only [World.size_alloc] at Z0
  have RF := hid (Blk.alloc Z0 (.cells (ansC 6 v none 0 0 none 0 0) 29))
  clear Z0
  unfold callC
  go_enter Tryd.func7, Tryd.ntmps7
  go_wp2
  refine bodyPost_ret (v := _) (hR _ _ _ _ _ rfl RF.out Tryd.underlying29 rfl sizeAns) rfl ?_
  exact ⟨rfl, BF.out⟩
theorem manyNil_any (w : World) : Calls Tryd.prog 9 #[.pointer none] w (fun e w' => e = .returned (.int .i64 0) ∧ w' = w) := by
  go_enter Tryd.func9, Tryd.ntmps9
  go_wp2
  go_ret
  exact ⟨rfl, rfl⟩
set_option maxHeartbeats 2000000 in
theorem walkDeskNil (w : World) (k v : Int) (r : Bool) (A A2 : Option Addr) (c c2 : Nat) (xs bs : List Int) (hr : Rs w w.heap.size A xs) (hb : Rb w w.heap.size A2 bs) (h1 : xs.length ≤ 17592186044416) (h2 : bs.length ≤ 140737488355328) :
    Calls Tryd.prog 3 #[.agg (callC k v r A xs.length c A2 bs.length c2)] w fun e w' => e = .returned (.bool true) ∧ Below w.heap.size w w' := by
  have B0 := hid ((Below.refl w.heap.size w).alloc (Nat.le_refl _) (.cells (callC k v r A xs.length c A2 bs.length c2) 25))
  have J0 := hid (Blk.new w 25 (callC k v r A xs.length c A2 bs.length c2))
  have KC := hid (call_any k v r A A2 xs.length c bs.length c2 xs bs (w.alloc (.cells (callC k v r A xs.length c A2 bs.length c2) 25)) ((hr.below B0.out).more B0.out.size) rfl ((hb.below B0.out).more B0.out.size) rfl h1 h2)
  have KD := hid (fun A c A2 c2 W => doNil_any k v r A A2 xs.length c bs.length c2 W)
  have KM := hid (fun W => manyNil_any W)
  clear hr hb h1 h2
  go_enter Tryd.func3, Tryd.ntmps3
  go_wp2_with (refine wpList_loadC rfl 25 (.tmp 1) rfl _ 25 _ _ rfl J0.out Tryd.underlying25 rfl sizeCall ?_)
  refine KC.out.mono ?_
  rintro e w1 ⟨A3, c3, A4, c4, rfl, _, _, hB⟩
  have B1 := hid (B0.out.trans (hB.mono B0.out.size))
  have J1 := hid (Blk.below' J0.out hB)
  clear hB KC B0 J0
  go_wp2_with fail
  refine (KD.out A3 c3 A4 c4 w1).mono ?_
  rintro e w2 ⟨rfl, hB⟩
  have B2 := hid (B1.out.trans (hB.mono B1.out.size))
  have J2 := Blk.below' J1.out hB
  have hL := (Below.refl w2.heap.size w2).alloc (Nat.le_refl _) (.cells (ansC 6 v none 0 0 none 0 0) 29)
  have JJ := Blk.below' J2 hL
  have GG := Blk.new w2 29 (ansC 6 v none 0 0 none 0 0)
  have cv : (w2.alloc (.cells (ansC 6 v none 0 0 none 0 0) 29)).cell? ⟨w.heap.size, 1, none⟩ = some (.int .i64 v) := Blk.cell JJ 1
  have B3 := hid (B2.out.trans (hL.mono B2.out.size))
  unfold ansC at cv B3
  have ev : (v == v) = true := by simp
  clear hB B1 J1 KD J2 hL JJ GG
  unfold ansC
  go_wp2_with (go_at_call 9; refine (KM.out _).mono ?_; rintro e w' ⟨rfl, rfl⟩)
  go_ret
  exact ⟨by simp, B3.out⟩
end Go.Proofs.YtcfmipobgljbeaaDoor
