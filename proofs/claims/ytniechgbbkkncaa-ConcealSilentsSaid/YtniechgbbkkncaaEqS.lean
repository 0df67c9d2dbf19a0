/- Two structs of numbers and arrays that are the same. -/
import Derived.Test.YtniechgbbkkncaaEqA
import Derived.Test.YtniechgbbkkncaaMemo
namespace Go.Proofs.Ytniechgbbkkncaa
set_option linter.unusedVariables false
set_option linter.unusedSimpArgs false
set_option maxRecDepth 100000
open Go.RowKit

theorem eqFields_self (d : Nat) (xs : Array Value) : ∀ fs : List Field, (∀ f ∈ fs, ∃ v, (∀ w, (part f.type xs f.offset).run Try.prog w = .ok v w) ∧ ∀ w, (Op.equalIn d f.type v v).run Try.prog w = .ok true w) → ∀ w, (Op.eqFields d xs xs fs).run Try.prog w = .ok true w
  | [], _, w => by simp [Op.eqFields]
  | f :: fs, h, w => by
    obtain ⟨v, h1, h2⟩ := h f (by simp)
    have ih := eqFields_self d xs fs (fun g hg => h g (by simp [hg])) w
    simp only [Op.eqFields, Sem.run_bind, Sem.run_ite]
    split
    · simp only [h1, h2, Result.andThen_ok, Bool.not_true, Bool.false_eq_true, if_false]
      exact ih
    · exact ih
theorem part_row {t : TypeId} {n o : Nat} (hs : ∀ w, (sizeOf t).run Try.prog w = .ok n w) (ha : ∀ w, (isAgg t).run Try.prog w = .ok true w) (cs A xs B : List Value) (he : cs = A ++ (xs ++ B)) (ho : A.length = o) (hl : xs.length = n) (w : World) :
    (part t cs.toArray o).run Try.prog w = .ok (.agg xs.toArray) w := by
  subst he
  subst ho
  subst hl
  have e : (A ++ (xs ++ B)).toArray.extract A.length (A.length + xs.length) = xs.toArray := by
    simp [List.extract_toArray]
  simp only [part, Sem.run_bind, ha, hs, Result.andThen_ok, if_true, Sem.run_pure, e]
theorem part_cell {t : TypeId} {o : Nat} (ha : ∀ w, (isAgg t).run Try.prog w = .ok false w) (cs A B : List Value) (v : Value) (he : cs = A ++ (v :: B)) (ho : A.length = o) (w : World) :
    (part t cs.toArray o).run Try.prog w = .ok v w := by
  subst he
  subst ho
  simp [part, ha]
theorem eql_struct {t : TypeId} (ht : Try.prog.underlying t = some (.struct (Try.prog.fieldsOf t))) (hp : Try.prog.stoodInHeld t = false) (xs : Array Value)
    (h : ∀ f ∈ (Try.prog.fieldsOf t).toList, ∃ v, (∀ w, (part f.type xs f.offset).run Try.prog w = .ok v w) ∧ ∀ w, (Op.equalIn 9999 f.type v v).run Try.prog w = .ok true w) (w : World) :
    (binOp .eql t (.agg xs) (.agg xs)).run Try.prog w = .ok (.bool true) w := by
  rw [run_eql_struct, run_equalIn_struct w 9999 t xs xs ht hp, eqFields_self 9999 xs _ h w]
  rfl
theorem eqi (x : Int) (w : World) : (Op.equalIn 9999 3 (.int .i64 x) (.int .i64 x)).run Try.prog w = .ok true w := by
  rw [run_equalIn_int w 9998 3 .i64 .i64 _ _ Try.underlying3]
  simp
theorem eqb (x : Bool) (w : World) : (Op.equalIn 9999 4 (.bool x) (.bool x)).run Try.prog w = .ok true w := by
  rw [run_equalIn_bool' w 9998 4 _ _ Try.underlying4]
  simp
/-- What a high-pass remembers is the same as itself. -/
theorem run_eql_high (xs : List Int) (hl : xs.length = 4) (w : World) : (binOp .eql 24 (.agg (agi xs)) (.agg (agi xs))).run Try.prog w = .ok (.bool true) w := by
  match xs, hl with
  | [a, b, c, d], _ =>
    refine eql_struct (by kernel_rfl) (by kernel_rfl) _ (fun f hf => ?_) w
    have hm : (f.type, f.offset) ∈ [(22, 0), (22, 2)] := by
      have e : (Try.prog.fieldsOf 24).toList.map (fun f => (f.type, f.offset)) = [(22, 0), (22, 2)] := by kernel_rfl
      rw [← e]
      exact List.mem_map_of_mem hf
    simp only [List.mem_cons, List.not_mem_nil, or_false, Prod.mk.injEq] at hm
    rcases hm with ⟨h1, h2⟩ | ⟨h1, h2⟩
    · rw [h1, h2]
      exact ⟨.agg (agi [a, b]), fun w => part_row (n := 2) (fun _ => by kernel_rfl) (fun _ => by kernel_rfl) _ [] (ints [a, b]) (ints [c, d]) rfl rfl rfl w, fun w => run_equalIn_agi 9997 Try.underlying22 [a, b] rfl w⟩
    · rw [h1, h2]
      exact ⟨.agg (agi [c, d]), fun w => part_row (n := 2) (fun _ => by kernel_rfl) (fun _ => by kernel_rfl) _ (ints [a, b]) (ints [c, d]) [] rfl rfl rfl w, fun w => run_equalIn_agi 9997 Try.underlying22 [c, d] rfl w⟩
/-- A memory is the same as itself. -/
theorem run_eql_mem (m : Mm) (k : m.ok) (w : World) : (binOp .eql 42 (.agg m.ag) (.agg m.ag)).run Try.prog w = .ok (.bool true) w := by
  refine eql_struct (by kernel_rfl) (by kernel_rfl) _ (fun f hf => ?_) w
  have hm : (f.type, f.offset) ∈ [(39, 0), (39, 8), (40, 16), (3, 96), (3, 97), (3, 98), (3, 99), (3, 100), (4, 101)] := by
    have e : (Try.prog.fieldsOf 42).toList.map (fun f => (f.type, f.offset)) = [(39, 0), (39, 8), (40, 16), (3, 96), (3, 97), (3, 98), (3, 99), (3, 100), (4, 101)] := by kernel_rfl
    rw [← e]
    exact List.mem_map_of_mem hf
  simp only [List.mem_cons, List.not_mem_nil, or_false, Prod.mk.injEq] at hm
  have l16 : (ints m.r ++ ints m.p).length = 16 := by simp only [List.length_append, ints_len, k.r, k.p]
  have l96 : (ints m.r ++ (ints m.p ++ ints m.e)).length = 96 := by simp only [List.length_append, ints_len, k.r, k.p, k.e]
  have e96 : m.cs = (ints m.r ++ (ints m.p ++ ints m.e)) ++ m.tl := by unfold Mm.cs Mm.tl; simp only [List.append_assoc]
  have ic : ∀ (o : Nat) (A B : List Value) (x : Int), m.tl = A ++ (.int .i64 x :: B) → 96 + A.length = o → ∃ v, (∀ w, (part 3 m.ag o).run Try.prog w = .ok v w) ∧ ∀ w, (Op.equalIn 9999 3 v v).run Try.prog w = .ok true w := fun o A B x hx ho =>
    ⟨.int .i64 x, fun w => part_cell (fun _ => by kernel_rfl) m.cs ((ints m.r ++ (ints m.p ++ ints m.e)) ++ A) B (.int .i64 x) (by rw [e96, hx]; simp only [List.append_assoc]) (by rw [List.length_append, l96, ho]) w, eqi x⟩
  rcases hm with ⟨h1, h2⟩ | ⟨h1, h2⟩ | ⟨h1, h2⟩ | ⟨h1, h2⟩ | ⟨h1, h2⟩ | ⟨h1, h2⟩ | ⟨h1, h2⟩ | ⟨h1, h2⟩ | ⟨h1, h2⟩ <;> rw [h1, h2]
  · exact ⟨.agg (agi m.r), fun w => part_row (n := 8) (fun _ => by kernel_rfl) (fun _ => by kernel_rfl) m.cs [] (ints m.r) _ rfl rfl (by rw [ints_len, k.r]) w, fun w => run_equalIn_agi 9997 Try.underlying39 _ k.r w⟩
  · exact ⟨.agg (agi m.p), fun w => part_row (n := 8) (fun _ => by kernel_rfl) (fun _ => by kernel_rfl) m.cs (ints m.r) (ints m.p) _ rfl (by rw [ints_len, k.r]) (by rw [ints_len, k.p]) w, fun w => run_equalIn_agi 9997 Try.underlying39 _ k.p w⟩
  · exact ⟨.agg (agi m.e), fun w => part_row (n := 80) (fun _ => by kernel_rfl) (fun _ => by kernel_rfl) m.cs (ints m.r ++ ints m.p) (ints m.e) m.tl (by unfold Mm.cs Mm.tl; simp only [List.append_assoc]) l16 (by rw [ints_len, k.e]) w, fun w => run_equalIn_agi 9997 Try.underlying40 _ k.e w⟩
  · exact ic 96 [] _ m.ga rfl rfl
  · exact ic 97 [_] _ m.pi rfl rfl
  · exact ic 98 [_, _] _ m.la rfl rfl
  · exact ic 99 [_, _, _] _ m.er rfl rfl
  · exact ic 100 [_, _, _, _] _ m.se rfl rfl
  · exact ⟨.bool m.si, fun w => part_cell (fun _ => by kernel_rfl) m.cs ((ints m.r ++ (ints m.p ++ ints m.e)) ++ [.int .i64 m.ga, .int .i64 m.pi, .int .i64 m.la, .int .i64 m.er, .int .i64 m.se]) [] (.bool m.si) (by rw [e96]; unfold Mm.tl; simp only [List.append_assoc]; rfl) (by rw [List.length_append, l96]; rfl) w, eqb m.si⟩
end Go.Proofs.Ytniechgbbkkncaa
