/- Texts that the law rests on, laid together: Ord. -/
import Derived.Test.YthoiikkjjaldnaaDoorZ6b4648
import Derived.StillTail
import Derived.BigQuiet
import Derived.Deep.MidRow
import Derived.Deep.QuietTactic
/- A region that draws its order, walked in one order that is named: first what yields in whatever world, then what is quiet in a class of worlds, then a tail in which whatever touches memory waits for what stands ahead of it. -/
namespace Go.Proofs.YthoiikkjjaldnaaDoor
set_option linter.unusedVariables false
set_option linter.unusedSimpArgs false
set_option maxRecDepth 100000
open Go.RowKit

/-- The operations of these numbers. -/
def opsAt (ops : Array Oper) : List Nat → List Oper
  | [] => []
  | i :: r => match ops[i]? with
    | some o => o :: opsAt ops r
    | none => opsAt ops r
/-- Numbers of operations, each of which there is. -/
def opsIn (ops : Array Oper) (l : List Nat) : Bool := l.all (fun i => decide (i < ops.size))
theorem opsAt_cons {ops : Array Oper} {i : Nat} {o : Oper} (h : ops[i]? = some o) (r : List Nat) : opsAt ops (i :: r) = o :: opsAt ops r := by simp only [opsAt, h]
/-- Does each of the head's numbers wait to be ahead of a later one, or of the first of the tail? -/
def sinkL (md : Region.Mode) (ops : Array Oper) (s : Nat) : List Nat → Bool
  | [] => true
  | i :: r => (Region.waitsFor md ops s i || r.any (fun j => Region.waitsFor md ops j i)) && sinkL md ops s r
def chainL (md : Region.Mode) (ops : Array Oper) : List Nat → List Nat → Bool
  | _, [] => true
  | seen, t :: r => seen.any (fun j => Region.waitsFor md ops t j) && chainL md ops (t :: seen) r
/-- An operation that hands a value on. -/
def handsOn (ops : Array Oper) (i : Nat) : Bool := match ops[i]? with
  | some o => match o.op with
    | .move _ => true
    | .assign _ => true
    | .extract _ _ => true
    | _ => false
  | none => false
def tailL (md : Region.Mode) (ops : Array Oper) : List Nat → Array Bool → Bool
  | [], listed => (Region.ready md ops listed).isEmpty
  | k :: r, listed => decide (Region.ready md ops listed = [k]) && tailL md ops r (listed.setIfInBounds k true) ||
      ((Region.ready md ops listed).contains k && Region.free md ops listed k && handsOn ops k) && tailL md ops r (listed.setIfInBounds k true)
def headL (md : Region.Mode) (ops : Array Oper) (tl : List Nat) : List Nat → Array Bool → Bool
  | [], listed => (Region.ready md ops listed).all (fun j => tl.contains j) && tailL md ops tl listed
  | k :: r, listed => (Region.ready md ops listed).contains k && Region.free md ops listed k && headL md ops tl r (listed.setIfInBounds k true)
def floatL (md : Region.Mode) (ops : Array Oper) (hd tl : List Nat) : List Nat → Array Bool → Bool
  | [], listed => (List.range ops.size).all (fun i => listed.getD i true || hd.contains i || tl.contains i) && tl.all (fun t => !listed.getD t true) && headL md ops tl hd listed
  | k :: r, listed => (Region.ready md ops listed).contains k && Region.free md ops listed k && floatL md ops hd tl r (listed.setIfInBounds k true)
def ordB (md : Region.Mode) (ops : Array Oper) (fl hd tl : List Nat) : Bool :=
  Region.noSelect ops && (match tl with | [] => false | s :: r => sinkL md ops s hd && chainL md ops [s] r) && hd.all (fun i => !tl.contains i) && opsIn ops fl && opsIn ops hd && opsIn ops tl && floatL md ops hd tl fl (Array.replicate ops.size false)

section
variable {P : Program} {ops : Array Oper} {md : Region.Mode} {C : World → Prop} {Q : Exit → Act → World → Prop}
structure HInv (md : Region.Mode) (ops : Array Oper) (tl : List Nat) (listed : Array Bool) : Prop where
  size : listed.size = ops.size
  closed : ∀ j oj, ops[j]? = some oj → listed.getD j false = true → ∀ e ∈ oj.after, Region.binds md e = true → listed.getD e.on false = true
  tail : ∀ t ∈ tl, listed.getD t true = false
theorem HInv.set {tl : List Nat} {i : Nat} {listed : Array Bool} (inv : HInv md ops tl listed) (hi : i ∈ Region.ready md ops listed) (hin : i ∉ tl) : HInv md ops tl (listed.setIfInBounds i true) := by
  obtain ⟨_, oi, hoi, hall⟩ := mem_ready.1 hi
  refine ⟨by simp [inv.size], fun j oj hj hl e he hb => ?_, fun t ht => by rw [getD_set_ne true (by rintro rfl; exact hin ht)]; exact inv.tail t ht⟩
  by_cases hij : i = j
  · subst hij
    have : oj = oi := Option.some.inj (hj.symm.trans hoi)
    subst this
    exact getD_set_true (hall e he hb)
  · rw [getD_set_ne false hij] at hl
    exact getD_set_true (inv.closed j oj hj hl e he hb)
theorem waits_off {listed : Array Bool} {t i : Nat} (h : Region.waitsFor md ops t i = true) (hun : listed.getD i true = false) : t ∉ Region.ready md ops listed := by
  intro hr
  obtain ⟨ot, hot, e, he, hb, hon⟩ := Region.waitsFor_spec h
  obtain ⟨_, o', ho', hall⟩ := mem_ready.1 hr
  have : o' = ot := Option.some.inj (ho'.symm.trans hot)
  subst this
  have h2 := hall e he hb
  rw [hon, getD_both hun] at h2
  cases h2
theorem sink_off {s : Nat} {tl : List Nat} {listed : Array Bool} (inv : HInv md ops tl listed) : ∀ l : List Nat, sinkL md ops s l = true → ∀ i ∈ l, listed.getD i true = false → s ∉ Region.ready md ops listed
  | [], _, i, hi, _ => by cases hi
  | k :: r, h, i, hi, hun => by
    simp only [sinkL, Bool.and_eq_true, Bool.or_eq_true] at h
    rcases List.mem_cons.1 hi with rfl | hi
    · rcases h.1 with h1 | h1
      · exact waits_off h1 hun
      · obtain ⟨j, hj, hw⟩ := List.any_eq_true.1 h1
        cases hl : listed.getD j true with
        | false => exact sink_off inv r h.2 j hj hl
        | true =>
          obtain ⟨oj, hoj, e, he, hb, hon⟩ := Region.waitsFor_spec hw
          have hj' : j < listed.size := by rw [inv.size]; exact (Array.getElem?_eq_some_iff.1 hoj).1
          have hjs : listed.getD j false = true := by simp [hj'] at hl ⊢; exact hl
          have h2 := inv.closed j oj hoj hjs e he hb
          rw [hon, getD_both hun] at h2
          cases h2
    · exact sink_off inv r h.2 i hi hun
theorem chain_off {tl : List Nat} {listed : Array Bool} (inv : HInv md ops tl listed) : ∀ (l seen : List Nat), chainL md ops seen l = true → (∀ j ∈ seen, j ∈ tl) → (∀ j ∈ l, j ∈ tl) → ∀ t ∈ l, t ∉ Region.ready md ops listed
  | [], _, _, _, _, t, ht => by cases ht
  | k :: r, seen, h, hs, hl, t, ht => by
    simp only [chainL, Bool.and_eq_true] at h
    rcases List.mem_cons.1 ht with rfl | ht
    · obtain ⟨j, hj, hw⟩ := List.any_eq_true.1 h.1
      exact waits_off hw (inv.tail j (hs j hj))
    · refine chain_off inv r (k :: seen) h.2 (fun j hj => ?_) (fun j hj => hl j (List.mem_cons_of_mem _ hj)) t ht
      rcases List.mem_cons.1 hj with rfl | hj
      · exact hl _ (List.mem_cons_self ..)
      · exact hs j hj
/-- While one of the head's has not come up, none of the tail may. -/
theorem tail_off {s : Nat} {r hd : List Nat} {listed : Array Bool} (inv : HInv md ops (s :: r) listed) (h1 : sinkL md ops s hd = true) (h2 : chainL md ops [s] r = true) {i : Nat} (hi : i ∈ hd) (hun : listed.getD i true = false) :
    ∀ t ∈ s :: r, t ∉ Region.ready md ops listed := fun t ht => by
  rcases List.mem_cons.1 ht with rfl | ht
  · exact sink_off inv hd h1 i hi hun
  · exact chain_off inv r [s] h2 (fun j hj => by rw [List.mem_singleton.1 hj]; exact List.mem_cons_self ..) (fun j hj => List.mem_cons_of_mem _ hj) t ht

/-- Whatever order is picked among the head's. -/
def wpAnyLQ (P : Program) (md : Region.Mode) (ops : Array Oper) (C : World → Prop) (hd : List Nat) (L : Array Bool → Act → Prop) : Nat → Array Bool → Act → Prop
  | 0, listed, a => L listed a
  | f + 1, listed, a =>
    Region.ready md ops listed ≠ [] ∧ ∀ i ∈ Region.ready md ops listed, i ∈ hd ∧ qOp P ops C i (wpAnyLQ P md ops C hd L f (listed.setIfInBounds i true)) a
theorem wpAny_of_headQ {hd : List Nat} {g : Nat} {L : Array Bool → Act → Prop} (hL : ∀ listed a w, C w → L listed a → wpAny P md ops Q g listed a w) :
    ∀ (f : Nat) (listed : Array Bool) (a : Act) (w : World), C w → wpAnyLQ P md ops C hd L f listed a → wpAny P md ops Q (f + g) listed a w
  | 0, listed, a, w, hw, h => by rw [Nat.zero_add]; exact hL _ _ _ hw h
  | f + 1, listed, a, w, hw, h => by
    rw [show f + 1 + g = (f + g) + 1 by omega]
    exact ⟨fun h0 => absurd h0 h.1, fun i hi => wpOp_of_qOp hw (fun a' w' hw' h' => wpAny_of_headQ hL f _ a' w' hw' h') (h.2 i hi).2⟩
theorem getD_set_trueD {listed : Array Bool} {i k : Nat} (h : listed.getD i true = true) : (listed.setIfInBounds k true).getD i true = true := by
  by_cases e : k = i
  · subst e
    rcases Nat.lt_or_ge k listed.size with h' | h'
    · simp [h']
    · simp [Array.getElem?_eq_none h']
  · rw [getD_set_ne true e]; exact h
/-- What is left: each number is listed, or of the head, or of the tail. -/
def covers (ops : Array Oper) (hd tl : List Nat) (listed : Array Bool) : Prop := ∀ i, i < ops.size → listed.getD i true = true ∨ i ∈ hd ∨ i ∈ tl
theorem covers.set {hd tl : List Nat} {listed : Array Bool} (h : covers ops hd tl listed) (k : Nat) : covers ops hd tl (listed.setIfInBounds k true) := fun i hi => by
  rcases h i hi with h | h
  · exact .inl (getD_set_trueD h)
  · exact .inr h
theorem in_head {s : Nat} {r hd : List Nat} {listed : Array Bool} (inv : HInv md ops (s :: r) listed) (hc : covers ops hd (s :: r) listed) (h1 : sinkL md ops s hd = true) (h2 : chainL md ops [s] r = true) {i : Nat} (hi : i ∈ hd) (hun : listed.getD i true = false)
    {j : Nat} (hj : j ∈ Region.ready md ops listed) : j ∈ hd := by
  obtain ⟨hjun, oj, hoj, _⟩ := mem_ready.1 hj
  rcases hc j (Array.getElem?_eq_some_iff.1 hoj).1 with h | h | h
  · rw [hjun] at h; cases h
  · exact h
  · exact absurd hj (tail_off inv h1 h2 hi hun j h)
theorem wpAnyLQ_first {s i : Nat} {r hd : List Nat} {oi : Oper} {v : Value} {L : Array Bool → Act → Prop} (hi : ops[i]? = some oi) (hsel : ∀ (j : Nat) (o : Oper) cs b, ops[j]? = some o → o.op ≠ .select cs b)
    (h1 : sinkL md ops s hd = true) (h2 : chainL md ops [s] r = true) (hdis : ∀ j ∈ hd, j ∉ s :: r) (hin : i ∈ hd)
    (hdone : ∀ listed a, L listed a → ∀ j ∈ Region.ready md ops listed, j ∈ s :: r) :
    ∀ (f : Nat) (listed : Array Bool) (a : Act), HInv md ops (s :: r) listed → covers ops hd (s :: r) listed →
      (∀ j oj, ops[j]? = some oj → j ≠ i → listed.getD j true = false → (∀ e ∈ oj.after, Region.binds md e = true → e.on ≠ i) → oi.apart ops oj = true) →
      i ∈ Region.ready md ops listed → YieldsIn P ops C oi v a →
      wpAnyLQ P md ops C hd L f (listed.setIfInBounds i true) (a.put oi.dst v) → wpAnyLQ P md ops C hd L (f + 1) listed a := by
  intro f
  induction f with
  | zero =>
    intro listed a inv hc _ hr hy H
    have hun := (mem_ready.1 hr).1
    refine ⟨fun h => (by rw [h] at hr; cases hr), fun j hj => ?_⟩
    have hjn := in_head inv hc h1 h2 hin hun hj
    refine ⟨hjn, ?_⟩
    by_cases hji : j = i
    · subst hji; exact hy.qOp hi H
    · exact absurd (hdone _ _ H j (ready_mono hj hji)) (hdis j hjn)
  | succ f ih =>
    intro listed a inv hc hfree hr hy H
    have hun := (mem_ready.1 hr).1
    refine ⟨fun h => (by rw [h] at hr; cases hr), fun j hj => ?_⟩
    have hjn := in_head inv hc h1 h2 hin hun hj
    refine ⟨hjn, ?_⟩
    by_cases hji : j = i
    · subst hji; exact hy.qOp hi H
    · have h3 := (H.2 j (ready_mono hj hji)).2
      obtain ⟨hjun, oj, hoj, hall⟩ := mem_ready.1 hj
      have hnot : ∀ e ∈ oj.after, Region.binds md e = true → e.on ≠ i := fun e he hb heq => by
        have h1 := hall e he hb
        rw [heq, getD_both hun] at h1
        cases h1
      have h4 := qOp_put hoj (hfree j oj hoj hji hjun hnot) (fun cs b => hsel i oi cs b hi) (fun cs b => hsel j oj cs b hoj) hy h3
      have hfree' : ∀ k ok, ops[k]? = some ok → k ≠ i → (listed.setIfInBounds j true).getD k true = false →
          (∀ e ∈ ok.after, Region.binds md e = true → e.on ≠ i) → oi.apart ops ok = true := fun k ok hk hki hun hno => by
        refine hfree k ok hk hki ?_ hno
        by_cases hjk : j = k
        · subst hjk; exact hjun
        · rw [getD_set_ne true hjk] at hun; exact hun
      refine qOp_mono (fun a' h5 => ih (listed.setIfInBounds j true) a' (inv.set hj (hdis j hjn)) (hc.set j) hfree' (ready_mono hr (Ne.symm hji)) h5.1 ?_) h4
      rw [Array.setIfInBounds_comm _ _ hji]
      exact h5.2

theorem wpAnyLQ_lex {s : Nat} {r hd : List Nat} {Lq : Act → Prop} (hsel : Region.noSelect ops = true) (h1 : sinkL md ops s hd = true) (h2 : chainL md ops [s] r = true) (hdis : ∀ j ∈ hd, j ∉ s :: r) :
    ∀ (l : List Nat) (listed : Array Bool) (a : Act), (∀ j ∈ l, j ∈ hd) → (∀ j ∈ l, j < ops.size) → HInv md ops (s :: r) listed → covers ops hd (s :: r) listed →
    headL md ops (s :: r) l listed = true → wpQuiet P ops C Lq (opsAt ops l) a →
    wpAnyLQ P md ops C hd (fun listed' a' => ((Region.ready md ops listed').all (fun j => (s :: r).contains j) && tailL md ops (s :: r) listed') = true ∧ Lq a') l.length listed a
  | [], listed, a, _, _, _, _, hB, h => ⟨by simpa [headL] using hB, h⟩
  | k :: l, listed, a, hl, hlt, inv, hc, hB, h => by
    obtain ⟨ok, hok⟩ : ∃ ok, ops[k]? = some ok := ⟨ops[k]'(hlt k (List.mem_cons_self ..)), Array.getElem?_eq_getElem _⟩
    simp only [headL, Bool.and_eq_true] at hB
    obtain ⟨⟨hr, hf⟩, hB'⟩ := hB
    have hr' : k ∈ Region.ready md ops listed := by simpa using hr
    rw [opsAt_cons hok] at h
    have hst : qOp P ops C k (wpQuiet P ops C Lq (opsAt ops l)) a := by unfold qOp; simp only [hok]; exact h
    obtain ⟨v, hy, hK⟩ := yieldsIn_of_qOp hok hst
    exact wpAnyLQ_first hok (Region.noSelect_spec hsel) h1 h2 hdis (hl k (List.mem_cons_self ..)) (fun listed' a' hL j hj => by
        have := hL.1
        simp only [Bool.and_eq_true] at this
        simpa using List.all_eq_true.1 this.1 j hj) l.length listed a inv hc (Region.free_spec hok hf) hr' hy
      (wpAnyLQ_lex hsel h1 h2 hdis l _ _ (fun j hj => hl j (List.mem_cons_of_mem _ hj)) (fun j hj => hlt j (List.mem_cons_of_mem _ hj)) (inv.set hr' (hdis k (hl k (List.mem_cons_self ..)))) (hc.set k) hB' hK)

/-- The tail. -/
theorem hands_on {i : Nat} {o : Oper} (ho : ops[i]? = some o) (h : handsOn ops i = true) {K : Act → World → Prop} {a : Act} {w : World} (hw : wpOp P ops Q i K a w) : ∃ v, Yields P ops o v a ∧ K (a.put o.dst v) w := by
  unfold handsOn at h
  rw [ho] at h
  have key : ∃ r : Result Next, (∃ v, r = .ok (.value v) w ∧ ∀ w, (execOp a.eval o).run P w = .ok (.value v) w) ∨ (r = .halt (.stuck "") w ∧ ∀ K' : Act → World → Prop, ¬ o.wp P a w K' Q) := by
    cases e : o.op <;> simp only [e] at h <;> first | (cases h; done) | skip
    case move x => exact ⟨_, .inl ⟨_, rfl, fun w => BigFrame.run_move x e w⟩⟩
    case assign x => exact ⟨_, .inl ⟨_, rfl, fun w => BigFrame.run_assign x e w⟩⟩
    case extract x k =>
      have hrun : ∀ w, (execOp a.eval o).run P w = ((Instr.extract (a.eval x) k).run P w).andThen fun v w => .ok (.value v) w := fun w => by unfold execOp; simp only [e, Sem.run_bind, Sem.run_pure]
      cases hv : a.eval x with
      | tuple vs =>
        cases hk : vs[k]? with
        | some v => exact ⟨_, .inl ⟨v, rfl, fun w => by rw [hrun, hv]; simp [Instr.extract, hk]⟩⟩
        | none =>
          refine ⟨_, .inr ⟨rfl, fun K' hw => ?_⟩⟩
          unfold Oper.wp at hw
          rw [hrun, hv] at hw
          simp [Instr.extract, hk, Oper.upon] at hw
      | _ =>
        refine ⟨_, .inr ⟨rfl, fun K' hw => ?_⟩⟩
        unfold Oper.wp at hw
        rw [hrun, hv] at hw
        simp [Instr.extract, Oper.upon] at hw
  have hevt : ((execOp a.eval o).runT P w #[]).2 = #[] := by
    cases e : o.op <;> simp only [e] at h <;> first | (cases h; done) | skip
    case move x => unfold execOp; rw [e]; rfl
    case assign x => unfold execOp; rw [e]; rfl
    case extract x k =>
      unfold execOp
      rw [e]
      simp only [Instr.extract]
      split
      · split <;> rfl
      · rfl
  unfold wpOp at hw
  simp only [ho] at hw
  split at hw
  · next hwant =>
    rcases hw with hw | ⟨hasks, _⟩
    · obtain ⟨_, ⟨v, _, hrun⟩ | ⟨_, hno⟩⟩ := key
      · unfold Oper.wp at hw
        rw [hrun w] at hw
        exact ⟨_, .inl ⟨hwant, hrun⟩, hw⟩
      · exact absurd hw (hno _)
    · unfold Oper.asks at hasks
      rw [hevt] at hasks
      simp at hasks
  · next hwant => exact ⟨_, .inr ⟨by simpa using hwant, rfl⟩, hw⟩
theorem wpAny_of_tail (hs : Region.noSelect ops = true) (hQ : ∀ c a d v w, Q (.panic c) (a.put d v) w → Q (.panic c) a w) : ∀ (l : List Nat) (listed : Array Bool) (a : Act) (w : World), (∀ j ∈ l, j < ops.size) →
    tailL md ops l listed = true → wpList P ops Q (opsAt ops l) a w → wpAny P md ops Q l.length listed a w
  | [], _, _, _, _, hB, h => ⟨by simpa [tailL] using hB, h⟩
  | k :: l, listed, a, w, hlt, hB, h => by
    obtain ⟨ok, hok⟩ : ∃ ok, ops[k]? = some ok := ⟨ops[k]'(hlt k (List.mem_cons_self ..)), Array.getElem?_eq_getElem _⟩
    rw [opsAt_cons hok] at h
    have hw : wpOp P ops Q k (wpList P ops Q (opsAt ops l)) a w := by unfold wpOp; simp only [hok]; exact h
    have hlt' : ∀ j ∈ l, j < ops.size := fun j hj => hlt j (List.mem_cons_of_mem _ hj)
    simp only [tailL, Bool.or_eq_true, Bool.and_eq_true, decide_eq_true_eq] at hB
    rcases hB with ⟨hr, hB'⟩ | ⟨⟨⟨hr, hf⟩, hh⟩, hB'⟩
    · refine ⟨fun h1 => (by rw [hr] at h1; cases h1), fun i hi => ?_⟩
      rw [hr] at hi
      have hik : i = k := by simpa using hi
      subst hik
      exact wpOp_mono (fun a' w' h' => wpAny_of_tail hs hQ l _ a' w' hlt' hB' h') hw
    · obtain ⟨v, hy, hK⟩ := hands_on hok hh hw
      exact wpAny_take hok hs hf hr (fun c a w => hQ c a _ _ w) hy (wpAny_of_tail hs hQ l _ _ _ hlt' hB' hK)

/-- What is taken first: each yields its value in whatever world. -/
def wpYields (P : Program) (ops : Array Oper) (L : Act → Prop) : List Oper → Act → Prop
  | [], a => L a
  | o :: r, a => ∃ v, Yields P ops o v a ∧ wpYields P ops L r (a.put o.dst v)
theorem wpYields_nil {L : Act → Prop} {a : Act} (h : L a) : wpYields P ops L [] a := h
theorem wpYields_step {L : Act → Prop} {a : Act} {o : Oper} {r : List Oper} {v : Value} (hw : Region.wanted o (yielded ops a.tmps) = true) (hr : ∀ w, (execOp a.eval o).run P w = .ok (.value v) w) (h : wpYields P ops L r (a.put o.dst v)) : wpYields P ops L (o :: r) a :=
  ⟨v, .inl ⟨hw, hr⟩, h⟩
theorem wpAny_of_float {s : Nat} {r hd : List Nat} (hs : Region.noSelect ops = true) (hQ : ∀ c a d v w, Q (.panic c) (a.put d v) w → Q (.panic c) a w) (h1 : sinkL md ops s hd = true) (h2 : chainL md ops [s] r = true) (hdis : ∀ j ∈ hd, j ∉ s :: r)
    (hhd : ∀ j ∈ hd, j < ops.size) (htl : ∀ j ∈ s :: r, j < ops.size) : ∀ (l : List Nat) (listed : Array Bool) (a : Act) (w : World), (∀ j ∈ l, j < ops.size) → listed.size = ops.size →
    (∀ j oj, ops[j]? = some oj → listed.getD j false = true → ∀ e ∈ oj.after, Region.binds md e = true → listed.getD e.on false = true) → floatL md ops hd (s :: r) l listed = true → C w →
    wpYields P ops (fun a1 => wpQuiet P ops C (fun a2 => ∀ w', C w' → wpList P ops Q (opsAt ops (s :: r)) a2 w') (opsAt ops hd) a1) (opsAt ops l) a → wpAny P md ops Q (l.length + (hd.length + (s :: r).length)) listed a w
  | [], listed, a, w, _, hsz, hcl, hB, hC, h => by
    simp only [floatL, Bool.and_eq_true] at hB
    obtain ⟨⟨hc, ht⟩, hB'⟩ := hB
    have inv : HInv md ops (s :: r) listed := ⟨hsz, hcl, fun t ht' => by
      have := List.all_eq_true.1 ht t ht'
      simpa using this⟩
    have cov : covers ops hd (s :: r) listed := fun i hi => by
      have := List.all_eq_true.1 hc i (List.mem_range.2 hi)
      simp only [Bool.or_eq_true] at this
      rcases this with (h | h) | h
      · exact .inl h
      · exact .inr (.inl (by simpa using h))
      · exact .inr (.inr (by simpa using h))
    have H := wpAnyLQ_lex (P := P) (C := C) hs h1 h2 hdis hd listed a (fun j hj => hj) hhd inv cov hB' h
    rw [List.length_nil, Nat.zero_add]
    exact wpAny_of_headQ (fun listed' a' w' hw' hL => wpAny_of_tail hs hQ (s :: r) listed' a' w' htl (by have := hL.1; simp only [Bool.and_eq_true] at this; exact this.2) (hL.2 w' hw')) _ _ _ _ hC H
  | k :: l, listed, a, w, hlt, hsz, hcl, hB, hC, h => by
    obtain ⟨ok, hok⟩ : ∃ ok, ops[k]? = some ok := ⟨ops[k]'(hlt k (List.mem_cons_self ..)), Array.getElem?_eq_getElem _⟩
    simp only [floatL, Bool.and_eq_true] at hB
    obtain ⟨⟨hr, hf⟩, hB'⟩ := hB
    rw [opsAt_cons hok] at h
    obtain ⟨v, hy, hK⟩ := h
    have hr' : k ∈ Region.ready md ops listed := by simpa using hr
    have hcl' := (HInv.set (tl := []) ⟨hsz, hcl, fun t ht => by cases ht⟩ hr' (fun h => by cases h)).closed
    rw [show (k :: l).length + (hd.length + (s :: r).length) = (l.length + (hd.length + (s :: r).length)) + 1 by simp only [List.length_cons]; omega]
    exact wpAny_take hok hs hf hr (fun c a w => hQ c a _ _ w) hy (wpAny_of_float hs hQ h1 h2 hdis hhd htl l _ _ _ (fun j hj => hlt j (List.mem_cons_of_mem _ hj)) (by simpa using hsz) hcl' hB' hC hK)
/-- THE LAW: a region that draws its order, walked in the order fl, hd, tl. -/
theorem wp_region_ord (fl hd : List Nat) (s : Nat) (r : List Nat) (C : World → Prop) {id : Nat} {a : Act} {w : World} {l : List Oper} (hm : P.follows .mixedOrders = true) (hB : ordB .any l.toArray fl hd (s :: r) = true) (hn : fl.length + (hd.length + (s :: r).length) = l.length) (hC : C w.drew)
    (hQ : ∀ c a d v w, Q (.panic c) (a.put d v) w → Q (.panic c) a w)
    (h : wpYields P l.toArray (fun a1 => wpQuiet P l.toArray C (fun a2 => ∀ w', C w' → wpList P l.toArray Q (opsAt l.toArray (s :: r)) a2 w') (opsAt l.toArray hd) a1) (opsAt l.toArray fl) a) : (Code.region id l.toArray true).wp P Q a w := by
  simp only [ordB, Bool.and_eq_true] at hB
  obtain ⟨⟨⟨⟨⟨⟨hs, h1, h2⟩, hdis⟩, hfl⟩, hhd⟩, htl⟩, hF⟩ := hB
  have lt : ∀ {l' : List Nat}, opsIn l.toArray l' = true → ∀ j ∈ l', j < l.toArray.size := fun h j hj => by
    have := List.all_eq_true.1 h j hj
    simpa using this
  refine wp_region_any hm ?_
  have H := wpAny_of_float (P := P) (md := .any) (C := C) hs hQ h1 h2 (fun j hj hj2 => by
      have := List.all_eq_true.1 hdis j hj
      rw [List.contains_iff_mem.2 hj2] at this
      cases this) (lt hhd) (lt htl) fl (Array.replicate l.toArray.size false) a { w with drawn := w.drawn + 1 } (lt hfl) (by simp) (fun j oj _ hl => by rw [getD_replicate_false] at hl; cases hl) hF hC h
  rw [hn] at H
  simpa using H
end
section
variable {P : Program} {ops : Array Oper} {C : World → Prop} {o : Oper} {a : Act} {K : Act → Prop}
/-- A row of cells, loaded out of the middle of a block, in a class of worlds in which it stands. -/
theorem quiet_mid (hw : Region.wanted o (yielded ops a.tmps) = true) (ty : TypeId) (x : Operand) (ho : o.op = .load ty x) (b f : Nat) (hx : a.eval x = .pointer (some ⟨b, f, none⟩)) (cs : List Value) (d : TypeDesc) (hC : ∀ W, C W → W.rangeAt b f cs)
    (hu : P.underlying ty = some d) (hd : d.isRow = true) (hi : (P.info? ty).map (·.size) = some cs.length) (k : K (a.put o.dst (.agg cs.toArray))) : if Region.wanted o (yielded ops a.tmps) then o.quiet P a C K else K (a.put o.dst undef) := by
  rw [if_pos hw]
  refine ⟨_, fun W hW => ?_, k⟩
  unfold Oper.quietAt execOp
  simp only [ho, hx, Instr.loadAt, Instr.sureAddr, Sem.run_bind, Sem.run_pure, Result.andThen_ok, run_loadVar_mid W b f ty cs d (hC W hW) hu hd hi]
  exact ⟨rfl, rfl⟩
end
end Go.Proofs.YthoiikkjjaldnaaDoor
