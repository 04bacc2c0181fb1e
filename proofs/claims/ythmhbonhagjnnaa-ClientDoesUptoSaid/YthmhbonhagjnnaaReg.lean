/- A region, drawn or not, walked along a plan: what only computes or reads is taken first, the rest comes up one at a time. -/
import Derived.OrdersHeld
import Derived.Below
import Derived.WalkKit
namespace Go.Proofs.Ythmhbonhagjnnaa
open Go.RowKit

/-- pure: computes; still: reads under the condition C; one: comes up alone, C holds behind it; tail: comes up alone, behind all that reads. -/
inductive Plan where
  | nil
  | pure (i : Nat) (p : Plan)
  | still (i : Nat) (p : Plan)
  | one (i : Nat) (p : Plan)
  | tail (i : Nat) (p : Plan)
  | two (i j : Nat) (p q : Plan)

def Plan.reads : Plan → List Nat
  | .nil => []
  | .pure _ p => p.reads
  | .still i p => i :: p.reads
  | .one _ p => p.reads
  | .tail _ p => p.reads
  | .two _ _ p q => p.reads ++ q.reads

def Plan.tails : Plan → List Nat
  | .nil => []
  | .pure _ p => p.tails
  | .still _ p => p.tails
  | .one _ p => p.tails
  | .tail i p => i :: p.tails
  | .two _ _ p q => p.tails ++ q.tails

def Plan.ok (ops : Array Oper) : Plan → Nat → Array Bool → Bool
  | .nil, _, listed => (Region.ready .any ops listed).isEmpty
  | .pure i p, n + 1, listed => (ops[i]?).isSome && Region.free .any ops listed i && (Region.ready .any ops listed).contains i && p.ok ops n (listed.setIfInBounds i true)
  | .still i p, n + 1, listed => (ops[i]?).isSome && Region.free .any ops listed i && (Region.ready .any ops listed).contains i && p.ok ops n (listed.setIfInBounds i true)
  | .one i p, n + 1, listed => (Region.ready .any ops listed == [i]) && p.ok ops n (listed.setIfInBounds i true)
  | .tail i p, n + 1, listed => p.reads.isEmpty && (Region.ready .any ops listed == [i]) && p.ok ops n (listed.setIfInBounds i true)
  | .two i j p q, n + 1, listed => (Region.ready .any ops listed == [i, j]) && p.ok ops n (listed.setIfInBounds i true) && q.ok ops n (listed.setIfInBounds j true)
  | _, 0, _ => false

/-- Operation j waits for operation i, directly or through others. -/
def waits (ops : Array Oper) : Nat → Nat → Nat → Bool
  | 0, _, _ => false
  | n + 1, j, i => match ops[j]? with
    | none => false
    | some o => o.after.any fun e => Region.binds .any e && (e.on == i || waits ops n e.on i)

def closedIn (ops : Array Oper) (listed : Array Bool) : Prop :=
  ∀ j o, ops[j]? = some o → listed.getD j false = true → ∀ e ∈ o.after, Region.binds .any e = true → listed.getD e.on false = true

theorem waits_listed {ops : Array Oper} {listed : Array Bool} (hc : closedIn ops listed) : ∀ (n j i : Nat), waits ops n j i = true →
    (∀ o, ops[j]? = some o → ∀ e ∈ o.after, Region.binds .any e = true → listed.getD e.on false = true) → listed.getD i false = true := by
  intro n
  induction n with
  | zero => intro j i h; simp [waits] at h
  | succ n ih =>
    intro j i h hj
    unfold waits at h
    cases ho : ops[j]? with
    | none => rw [ho] at h; simp at h
    | some o =>
      rw [ho] at h
      simp only [Array.any_eq_true'] at h
      obtain ⟨e, he, h⟩ := h
      simp only [Bool.and_eq_true, Bool.or_eq_true, beq_iff_eq] at h
      have hl := hj o ho e he h.1
      rcases h.2 with rfl | h2
      · exact hl
      · exact ih e.on i h2 fun o' ho' => hc e.on o' ho' hl

/-- The condition on tails: whoever reads comes up ahead of each. -/
def tailsOk (ops : Array Oper) (reads tails : List Nat) : Bool := tails.all fun j => reads.all fun i => waits ops ops.size j i

def wpB (P : Program) (ops : Array Oper) (Q : Exit → Act → World → Prop) (C : World → Prop) (tl : List Nat) : Nat → Array Bool → Act → World → Prop
  | 0, listed, a, w => Region.ready .any ops listed = [] ∧ Q .normal a w
  | n + 1, listed, a, w =>
    (Region.ready .any ops listed = [] → Q .normal a w) ∧
    ∀ i ∈ Region.ready .any ops listed, wpOp P ops Q i (fun a' w' => (i ∉ tl → C w → C w') ∧ wpB P ops Q C tl n (listed.setIfInBounds i true) a' w') a w

section
variable {P : Program} {ops : Array Oper} {Q : Exit → Act → World → Prop} {C : World → Prop} {tl : List Nat}

theorem wpAny_of_wpB : ∀ (n : Nat) (listed : Array Bool) (a : Act) (w : World), wpB P ops Q C tl n listed a w → wpAny P .any ops Q n listed a w
  | 0, _, _, _, h => h
  | n + 1, _, _, _, h => ⟨h.1, fun i hi => wpOp_mono (fun a' w' h' => wpAny_of_wpB n _ a' w' h'.2) (h.2 i hi)⟩

theorem getD_true_false {listed : Array Bool} {i : Nat} (h : listed.getD i true = false) : listed.getD i false = false := by
  rcases Nat.lt_or_ge i listed.size with h' | h'
  · simpa [h'] using h
  · simp [Array.getElem?_eq_none h'] at h

theorem closedIn_set {listed : Array Bool} {i : Nat} (hc : closedIn ops listed) (hr : i ∈ Region.ready .any ops listed) : closedIn ops (listed.setIfInBounds i true) := by
  intro j o ho hl e he hb
  obtain ⟨h0, o', ho', hall⟩ := mem_ready.1 hr
  have hset : ∀ k, listed.getD k false = true → (listed.setIfInBounds i true).getD k false = true := fun k hk => getD_set_true hk
  by_cases hji : j = i
  · subst hji
    rw [ho] at ho'; cases ho'
    exact hset _ (hall e he hb)
  · refine hset _ (hc j o ho ?_ e he hb)
    rw [getD_set_ne false (Ne.symm hji)] at hl
    exact hl

/-- Take number i first. -/
theorem wpB_first {i : Nat} {oi : Oper} {v : Value} {D : World → Prop} (hi : ops[i]? = some oi) (hsel : ∀ (j : Nat) (o : Oper) cs b, ops[j]? = some o → o.op ≠ .select cs b)
    (hQ : ∀ c a w, Q (.panic c) (a.put oi.dst v) w → Q (.panic c) a w) (hD : (∀ w, D w) ∨ (D = C ∧ ∀ j ∈ tl, waits ops ops.size j i = true)) :
    ∀ (n : Nat) (listed : Array Bool) (a : Act) (w : World), closedIn ops listed →
      (∀ j oj, ops[j]? = some oj → j ≠ i → listed.getD j true = false → (∀ e ∈ oj.after, Region.binds .any e = true → e.on ≠ i) → oi.apart ops oj = true) →
      i ∈ Region.ready .any ops listed → YieldsIf P ops D oi v a → D w →
      wpB P ops Q C tl n (listed.setIfInBounds i true) (a.put oi.dst v) w → wpB P ops Q C tl (n + 1) listed a w := by
  intro n
  induction n with
  | zero =>
    intro listed a w hcl _ hr hy hS H
    refine ⟨fun h => (by rw [h] at hr; cases hr), fun j hj => ?_⟩
    by_cases hji : j = i
    · subst hji; exact hy.wpOp hi hS ⟨fun _ h => h, H⟩
    · have := ready_mono hj hji
      rw [H.1] at this
      cases this
  | succ n ih =>
    intro listed a w hcl hfree hr hy hS H
    refine ⟨fun h => (by rw [h] at hr; cases hr), fun j hj => ?_⟩
    by_cases hji : j = i
    · subst hji; exact hy.wpOp hi hS ⟨fun _ h => h, H⟩
    · have h1 := H.2 j (ready_mono hj hji)
      obtain ⟨hjun, oj, hoj, hall⟩ := mem_ready.1 hj
      have hiun := (mem_ready.1 hr).1
      have hnot : ∀ e ∈ oj.after, Region.binds .any e = true → e.on ≠ i := fun e he hb heq => by
        have h1 := hall e he hb
        rw [heq, getD_true_false hiun] at h1
        cases h1
      have h2 := wpOp_putIf hoj (hfree j oj hoj hji hjun hnot) (fun cs b => hsel i oi cs b hi) (fun cs b => hsel j oj cs b hoj) hQ hy h1
      have hfree' : ∀ k ok, ops[k]? = some ok → k ≠ i → (listed.setIfInBounds j true).getD k true = false →
          (∀ e ∈ ok.after, Region.binds .any e = true → e.on ≠ i) → oi.apart ops ok = true := fun k ok hk hki hun hno => by
        refine hfree k ok hk hki ?_ hno
        by_cases hjk : j = k
        · subst hjk; exact hjun
        · rw [getD_set_ne true hjk] at hun; exact hun
      have hDw : ∀ w', (j ∉ tl → C w → C w') → D w' := fun w' h' => by
        rcases hD with hD | ⟨hD, hw⟩
        · exact hD w'
        · rw [hD] at hS ⊢
          refine h' (fun hm => ?_) hS
          have := waits_listed hcl _ _ _ (hw j hm) (fun o ho e he hb => hall e (by rw [hoj] at ho; cases ho; exact he) hb)
          rw [getD_true_false hiun] at this
          cases this
      refine wpOp_mono (fun a' w' h3 => ⟨h3.2.1, ih (listed.setIfInBounds j true) a' w' (closedIn_set hcl hj) hfree' (ready_mono hr (Ne.symm hji)) h3.1 (hDw w' h3.2.1) ?_⟩) h2
      rw [Array.setIfInBounds_comm _ _ hji]
      exact h3.2.2

theorem wpB_done {listed : Array Bool} {a : Act} {w : World} (hr : Region.ready .any ops listed = []) (h : Q .normal a w) : ∀ n, wpB P ops Q C tl n listed a w
  | 0 => ⟨hr, h⟩
  | _ + 1 => ⟨fun _ => h, by rw [hr]; simp⟩
end

/-- The walk along a plan. -/
def wl (P : Program) (ops : Array Oper) (C : World → Prop) (Q : Exit → Act → World → Prop) : Plan → Act → World → Prop
  | .nil, a, w => Q .normal a w
  | .pure i p, a, w => ∃ o v, ops[i]? = some o ∧ YieldsIf P ops (fun _ => True) o v a ∧ wl P ops C Q p (a.put o.dst v) w
  | .still i p, a, w => ∃ o v, ops[i]? = some o ∧ YieldsIf P ops C o v a ∧ wl P ops C Q p (a.put o.dst v) w
  | .one i p, a, w => wpOp P ops Q i (fun a' w' => C w' ∧ wl P ops C Q p a' w') a w
  | .tail i p, a, w => wpOp P ops Q i (fun a' w' => wl P ops C Q p a' w') a w
  | .two i j p q, a, w => wpOp P ops Q i (fun a' w' => C w' ∧ wl P ops C Q p a' w') a w ∧ wpOp P ops Q j (fun a' w' => C w' ∧ wl P ops C Q q a' w') a w

theorem wl_sound {P : Program} {ops : Array Oper} {C : World → Prop} {Q : Exit → Act → World → Prop} {tl rd : List Nat} (hns : Region.noSelect ops = true)
    (ht : tailsOk ops rd tl = true) (hQ : ∀ c a d v w, Q (.panic c) (a.put d v) w → Q (.panic c) a w) :
    ∀ (p : Plan) (n : Nat) (listed : Array Bool) (a : Act) (w : World), closedIn ops listed → p.ok ops n listed = true → (∀ i ∈ p.reads, i ∈ rd) → (∀ i ∈ p.tails, i ∈ tl) →
      (p.reads ≠ [] → C w) → wl P ops C Q p a w → wpB P ops Q C tl n listed a w := by
  intro p
  have hwait : ∀ i ∈ rd, ∀ j ∈ tl, waits ops ops.size j i = true := fun i hi j hj => by
    have := List.all_eq_true.1 ht j hj
    exact List.all_eq_true.1 this i hi
  induction p with
  | nil =>
    intro n listed a w _ hok _ _ _ h
    exact wpB_done (by simpa [Plan.ok] using hok) h n
  | pure i p ih =>
    intro n listed a w hcl hok hrd htl hC h
    cases n with
    | zero => simp [Plan.ok] at hok
    | succ n =>
      simp only [Plan.ok, Bool.and_eq_true] at hok
      obtain ⟨o, v, hi, hy, h⟩ := h
      have hr : i ∈ Region.ready .any ops listed := by simpa using hok.1.2
      exact wpB_first hi (Region.noSelect_spec hns) (fun c a w hh => hQ c a _ _ w hh) (.inl fun _ => trivial) n listed a w hcl (Region.free_spec hi hok.1.1.2) hr hy trivial
        (ih n _ _ _ (closedIn_set hcl hr) hok.2 hrd htl hC h)
  | still i p ih =>
    intro n listed a w hcl hok hrd htl hC h
    cases n with
    | zero => simp [Plan.ok] at hok
    | succ n =>
      simp only [Plan.ok, Bool.and_eq_true] at hok
      obtain ⟨o, v, hi, hy, h⟩ := h
      have hr : i ∈ Region.ready .any ops listed := by simpa using hok.1.2
      have hCw := hC (by simp [Plan.reads])
      exact wpB_first hi (Region.noSelect_spec hns) (fun c a w hh => hQ c a _ _ w hh) (.inr ⟨rfl, fun j hj => hwait i (hrd i (by simp [Plan.reads])) j hj⟩) n listed a w hcl (Region.free_spec hi hok.1.1.2) hr hy hCw
        (ih n _ _ _ (closedIn_set hcl hr) hok.2 (fun k hk => hrd k (by simp [Plan.reads, hk])) htl (fun _ => hCw) h)
  | one i p ih =>
    intro n listed a w hcl hok hrd htl hC h
    cases n with
    | zero => simp [Plan.ok] at hok
    | succ n =>
      simp only [Plan.ok, Bool.and_eq_true, beq_iff_eq] at hok
      refine ⟨fun h0 => by rw [h0] at hok; simp at hok, fun j hj => ?_⟩
      have hr := hj
      rw [hok.1] at hj
      obtain rfl : j = i := by simpa using hj
      exact wpOp_mono (fun a' w' hh => ⟨fun _ _ => hh.1, ih n _ _ _ (closedIn_set hcl hr) hok.2 hrd htl (fun _ => hh.1) hh.2⟩) h
  | tail i p ih =>
    intro n listed a w hcl hok hrd htl hC h
    cases n with
    | zero => simp [Plan.ok] at hok
    | succ n =>
      simp only [Plan.ok, Bool.and_eq_true, beq_iff_eq] at hok
      refine ⟨fun h0 => by rw [h0] at hok; simp at hok, fun j hj => ?_⟩
      have hr := hj
      rw [hok.1.2] at hj
      obtain rfl : j = i := by simpa using hj
      exact wpOp_mono (fun a' w' hh => ⟨fun hm => absurd (htl j (by simp [Plan.tails])) hm, ih n _ _ _ (closedIn_set hcl hr) hok.2 hrd (fun k hk => htl k (by simp [Plan.tails, hk])) (fun hne => absurd (by simpa using hok.1.1) hne) hh⟩) h
  | two i j p q ihp ihq =>
    intro n listed a w hcl hok hrd htl hC h
    cases n with
    | zero => simp [Plan.ok] at hok
    | succ n =>
      simp only [Plan.ok, Bool.and_eq_true, beq_iff_eq] at hok
      refine ⟨fun h0 => by rw [h0] at hok; simp at hok, fun k hk => ?_⟩
      have hr := hk
      rw [hok.1.1] at hk
      have hk' : k = i ∨ k = j := by simpa using hk
      rcases hk' with rfl | rfl
      · exact wpOp_mono (fun a' w' hh => ⟨fun _ _ => hh.1, ihp n _ _ _ (closedIn_set hcl hr) hok.1.2 (fun m hm => hrd m (by simp [Plan.reads, hm])) (fun m hm => htl m (by simp [Plan.tails, hm])) (fun _ => hh.1) hh.2⟩) h.1
      · exact wpOp_mono (fun a' w' hh => ⟨fun _ _ => hh.1, ihq n _ _ _ (closedIn_set hcl hr) hok.2 (fun m hm => hrd m (by simp [Plan.reads, hm])) (fun m hm => htl m (by simp [Plan.tails, hm])) (fun _ => hh.1) hh.2⟩) h.2

def Plan.good (ops : Array Oper) (p : Plan) : Bool :=
  Region.noSelect ops && tailsOk ops p.reads p.tails && p.ok ops ops.size (Array.replicate ops.size false)

theorem wp_region_plan {P : Program} {id : Nat} {ops : Array Oper} {Q : Exit → Act → World → Prop} {a : Act} {w : World} (p : Plan) (C : World → Prop)
    (hm : P.follows .mixedOrders = true) (hok : p.good ops = true)
    (hQ : ∀ c a d v w, Q (.panic c) (a.put d v) w → Q (.panic c) a w) (hC : p.reads ≠ [] → C w.drew)
    (h : wl P ops C Q p a w.drew) : (Code.region id ops true).wp P Q a w := by
  simp only [Plan.good, Bool.and_eq_true] at hok
  refine wp_region_any hm (wpAny_of_wpB (C := C) (tl := p.tails) _ _ _ _ (wl_sound (rd := p.reads) hok.1.1 hok.1.2 hQ p _ _ _ _ ?_ hok.2 (fun _ h => h) (fun _ h => h) hC h))
  intro j o _ hl
  exfalso
  rw [Array.getD_eq_getD_getElem?, Array.getElem?_replicate] at hl
  split at hl <;> simp at hl

/-- The plan of a region in the text's order: the operations from k on. -/
def Plan.text : Plan → Nat → Nat → Bool
  | .nil, k, n => k == n
  | .pure i p, k, n => i == k && k < n && p.text (k + 1) n
  | .still i p, k, n => i == k && k < n && p.text (k + 1) n
  | .one i p, k, n => i == k && k < n && p.text (k + 1) n
  | .tail i p, k, n => i == k && k < n && p.text (k + 1) n
  | .two _ _ _ _, _, _ => false

theorem wl_text {P : Program} {ops : Array Oper} {C : World → Prop} {Q : Exit → Act → World → Prop} :
    ∀ (p : Plan) (k : Nat) (a : Act) (w : World), p.text k ops.size = true → C w → wl P ops C Q p a w → p.tails = [] → wpOps P ops Q (List.range' k (ops.size - k)) a w := by
  intro p
  induction p with
  | nil =>
    intro k a w ht _ h _
    have : k = ops.size := by simpa [Plan.text] using ht
    simp [this, wpOps]; exact h
  | pure i p ih =>
    intro k a w ht hC h htl
    simp only [Plan.text, Bool.and_eq_true, beq_iff_eq, decide_eq_true_eq] at ht
    obtain ⟨⟨rfl, hk⟩, ht⟩ := ht
    obtain ⟨o, v, hi, hy, h⟩ := h
    rw [show ops.size - i = (ops.size - (i + 1)) + 1 by omega, List.range'_succ, wpOps_cons]
    exact hy.wpOp hi trivial (ih _ _ _ ht hC h htl)
  | still i p ih =>
    intro k a w ht hC h htl
    simp only [Plan.text, Bool.and_eq_true, beq_iff_eq, decide_eq_true_eq] at ht
    obtain ⟨⟨rfl, hk⟩, ht⟩ := ht
    obtain ⟨o, v, hi, hy, h⟩ := h
    rw [show ops.size - i = (ops.size - (i + 1)) + 1 by omega, List.range'_succ, wpOps_cons]
    exact hy.wpOp hi hC (ih _ _ _ ht hC h htl)
  | one i p ih =>
    intro k a w ht hC h htl
    simp only [Plan.text, Bool.and_eq_true, beq_iff_eq, decide_eq_true_eq] at ht
    obtain ⟨⟨rfl, hk⟩, ht⟩ := ht
    rw [show ops.size - i = (ops.size - (i + 1)) + 1 by omega, List.range'_succ, wpOps_cons]
    exact wpOp_mono (fun a' w' hh => ih _ _ _ ht hh.1 hh.2 htl) h
  | tail i p ih => intro k a w _ _ _ htl; simp [Plan.tails] at htl
  | two i j p q _ _ => intro k a w ht; simp [Plan.text] at ht

/-- A region that does not draw: the same walk, in the text's order, without a condition. -/
theorem wp_region_seq {P : Program} {id : Nat} {ops : Array Oper} {Q : Exit → Act → World → Prop} {a : Act} {w : World} (p : Plan)
    (hok : (p.text 0 ops.size && p.tails.isEmpty) = true) (h : wl P ops (fun _ => True) Q p a w) : (Code.region id ops false).wp P Q a w := by
  rw [Bool.and_eq_true] at hok
  refine wp_region ?_
  have := wl_text p 0 a w hok.1 trivial h (by simpa using hok.2)
  rw [List.range_eq_range']
  simpa using this
end Go.Proofs.Ythmhbonhagjnnaa
