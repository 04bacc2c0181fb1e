/- Lists without repeats next to each other; keys in order are the keys sorted, each once. -/
import Derived.Test.YthmhbonhagjnnaaSt
import Derived.Test.YthmhbonhagjnnaaSo
namespace Go.Proofs.Ythmhbonhagjnnaa
open Go.RowKit Go.Sort
set_option linter.unusedVariables false
set_option linter.unusedSimpArgs false
set_option linter.unusedSectionVars false

section comp
variable {α : Type} [DecidableEq α]
def compT (p : α) : List α → List α
  | [] => []
  | x :: l => if x = p then compT p l else x :: compT x l
def comp : List α → List α
  | [] => []
  | x :: l => x :: compT x l
theorem compT_app (l : List α) (y : α) : ∀ p, compT p (l ++ [y]) = compT p l ++ if y = (p :: l).getLast (by simp) then [] else [y] := by
  induction l with
  | nil => intro p; rfl
  | cons x l ih =>
    intro p
    have e : (p :: x :: l).getLast (by simp) = (x :: l).getLast (by simp) := List.getLast_cons _
    simp only [List.cons_append, compT]
    rw [e]
    by_cases h : x = p
    · rw [if_pos h, if_pos h, ih, h]
    · rw [if_neg h, if_neg h, ih]; rfl
theorem comp_app {l : List α} {x y : α} (h : l.getLast? = some x) : comp (l ++ [y]) = comp l ++ if y = x then [] else [y] := by
  cases l with
  | nil => simp at h
  | cons z l =>
    have e : (z :: l).getLast (by simp) = x := by rw [List.getLast?_eq_some_getLast (by simp)] at h; exact Option.some.inj h
    simp only [List.cons_append, comp, compT_app]
    rw [e]
theorem take_last {l : List α} {i : Nat} {x : α} (hx : l[i]? = some x) : (l.take (i + 1)).getLast? = some x := by
  rw [List.take_add_one, hx]; simp
theorem comp_same {l : List α} {i : Nat} {x : α} (hx : l[i]? = some x) (hy : l[i + 1]? = some x) : comp (l.take (i + 2)) = comp (l.take (i + 1)) := by
  rw [List.take_add_one, hy, Option.toList_some, comp_app (take_last hx)]; simp
theorem comp_new {l : List α} {i : Nat} {x y : α} (hx : l[i]? = some x) (hy : l[i + 1]? = some y) (h : y ≠ x) : comp (l.take (i + 2)) = comp (l.take (i + 1)) ++ [y] := by
  rw [List.take_add_one, hy, Option.toList_some, comp_app (take_last hx), if_neg h]
theorem comp_one {l : List α} (h : l.length < 2) : comp l = l := by
  match l, h with
  | [], _ => rfl
  | [x], _ => rfl
theorem comp_go {l : List α} {k : Nat} {x y : α} (h1 : 1 ≤ k) (hc : comp (l.take k) = l.take k) (hx : l[k - 1]? = some x) (hy : l[k]? = some y) (h : y ≠ x) : comp (l.take (k + 1)) = l.take (k + 1) := by
  obtain ⟨i, rfl⟩ : ∃ i, k = i + 1 := ⟨k - 1, by omega⟩
  rw [comp_new (by simpa using hx) hy h, hc, List.take_add_one (i := i + 1), hy]; rfl
theorem comp_go2 {l : List α} {k : Nat} {x y : α} (h1 : 1 ≤ k) (hc : comp (l.take k) = l.take k) (hx : l[k - 1]? = some x) (hy : l[k]? = some y) (h : y = x) : l.take k = comp (l.take (k + 1)) := by
  obtain ⟨i, rfl⟩ : ∃ i, k = i + 1 := ⟨k - 1, by omega⟩
  subst h
  rw [comp_same (by simpa using hx) hy, hc]
theorem comp_go3 {l r : List α} {j k m : Nat} {x y : α} (h1 : 1 ≤ m) (hc : r.take j = comp (l.take (k + m))) (hx : l[k + m - 1]? = some x) (hy : l[k + m]? = some y) (h : y = x) : r.take j = comp (l.take (k + (m + 1))) := by
  obtain ⟨i, hi⟩ : ∃ i, k + m = i + 1 := ⟨k + m - 1, by omega⟩
  rw [hi] at hc hx hy
  subst h
  rw [hc, show k + (m + 1) = i + 2 by omega, comp_same (by simpa using hx) hy]
theorem comp_go4 {l r : List α} {j k m : Nat} {x y : α} (h1 : 1 ≤ m) (hj : j < r.length) (hc : r.take j = comp (l.take (k + m))) (hx : l[k + m - 1]? = some x) (hy : l[k + m]? = some y) (h : ¬ y = x) : (r.set j y).take (j + 1) = comp (l.take (k + (m + 1))) := by
  obtain ⟨i, hi⟩ : ∃ i, k + m = i + 1 := ⟨k + m - 1, by omega⟩
  rw [hi] at hc hx hy
  rw [show k + (m + 1) = i + 2 by omega, comp_new (by simpa using hx) hy h, ← hc, List.take_add_one]
  simp [hj, List.take_set_of_le]
theorem comp_go5 {l r : List α} {j : Nat} {y : α} (h : ∀ i, j ≤ i → r[i]? = l[i]?) : ∀ i, j + 1 ≤ i → (r.set j y)[i]? = l[i]? := fun i hi => by
  rw [List.getElem?_set_ne (by omega)]; exact h i (by omega)
theorem comp_end {l r : List α} {j k m n : Nat} {z : α} (hl : r.length = l.length) (hj : j ≤ r.length) (hc : r.take j = comp (l.take (k + m))) (h : l.length ≤ k + m) : (r.take j ++ List.replicate (n - j) z).take j = comp l := by
  rw [List.take_left' (by simp; omega), hc, List.take_of_length_le h]
theorem mem_compT {l : List α} : ∀ {p z : α}, z ∈ compT p l ∨ z = p ↔ z ∈ l ∨ z = p := by
  induction l with
  | nil => intro p z; simp [compT]
  | cons x l ih =>
    intro p z
    simp only [compT]
    by_cases h : x = p
    · subst h; rw [if_pos rfl, ih]; simp; 
      constructor
      · rintro (h | h) <;> simp [h]
      · rintro ((h | h) | h) <;> simp [h]
    · rw [if_neg h]
      have := ih (p := x) (z := z)
      simp only [List.mem_cons]
      constructor
      · rintro ((h | h) | h)
        · exact .inl (.inl h)
        · rcases this.1 (.inl h) with h | h
          · exact .inl (.inr h)
          · exact .inl (.inl h)
        · exact .inr h
      · rintro ((h | h) | h)
        · exact .inl (.inl h)
        · rcases this.2 (.inl h) with h | h
          · exact .inl (.inr h)
          · exact .inl (.inl h)
        · exact .inr h
theorem mem_comp {l : List α} {z : α} : z ∈ comp l ↔ z ∈ l := by
  cases l with
  | nil => rfl
  | cons x l =>
    simp only [comp, List.mem_cons]
    have := mem_compT (l := l) (p := x) (z := z)
    constructor
    · rintro (h | h)
      · exact .inl h
      · exact (this.1 (.inl h)).symm
    · rintro (h | h)
      · exact .inl h
      · exact (this.2 (.inl h)).symm
theorem compT_len {l : List α} : ∀ p, (compT p l).length ≤ l.length := by
  induction l with
  | nil => intro p; simp [compT]
  | cons x l ih =>
    intro p
    simp only [compT]
    split
    · have := ih p; simp; omega
    · have := ih x; simp; omega
theorem comp_len {l : List α} : (comp l).length ≤ l.length := by
  cases l with
  | nil => simp [comp]
  | cons x l => have := compT_len (l := l) x; simp [comp]; omega
end comp

theorem kLt_trans {x y z : Key} (h : kLt x y) (k : kLt y z) : kLt x z := by unfold kLt at *; omega
theorem kLt_irr (x : Key) : ¬ kLt x x := by unfold kLt; omega
theorem kLt_tri (x y : Key) : kLt x y ∨ x = y ∨ kLt y x := by
  obtain ⟨a, b⟩ := x; obtain ⟨c, d⟩ := y; simp only [kLt, Prod.mk.injEq]; omega
/-- Rising: each below the next. -/
def Rising (l : List Key) : Prop := l.Pairwise kLt
theorem Rising.eq : ∀ {l m : List Key}, Rising l → Rising m → (∀ x, x ∈ l ↔ x ∈ m) → l = m
  | [], [], _, _, _ => rfl
  | [], y :: m, _, _, h => by have := (h y).2 (by simp); simp at this
  | x :: l, [], _, _, h => by have := (h x).1 (by simp); simp at this
  | x :: l, y :: m, hl, hm, h => by
    obtain ⟨h1, h2⟩ := List.pairwise_cons.1 hl
    obtain ⟨h3, h4⟩ := List.pairwise_cons.1 hm
    have hxy : x = y := by
      have hx := (h x).1 (by simp)
      have hy := (h y).2 (by simp)
      rcases List.mem_cons.1 hx with e | e
      · exact e
      · rcases List.mem_cons.1 hy with e' | e'
        · exact e'.symm
        · exact absurd (kLt_trans (h1 _ e') (h3 _ e)) (kLt_irr _)
    subst hxy
    rw [Rising.eq h2 h4 fun z => ?_]
    have := h z
    simp only [List.mem_cons] at this
    constructor
    · intro hz
      rcases this.1 (.inr hz) with e | e
      · subst e; exact absurd (h1 _ hz) (kLt_irr _)
      · exact e
    · intro hz
      rcases this.2 (.inr hz) with e | e
      · subst e; exact absurd (h3 _ hz) (kLt_irr _)
      · exact e
theorem insK_mem {o : List Key} {x z : Key} : z ∈ insK o x ↔ z = x ∨ z ∈ o := by
  induction o with
  | nil => simp [insK]
  | cons y o ih =>
    unfold insK
    split
    · simp [ih]; constructor
      · rintro (h | h | h) <;> simp [h]
      · rintro (h | h | h) <;> simp [h]
    · split
      · rename_i h; subst h; simp
      · simp
theorem insK_rising {o : List Key} {x : Key} (h : Rising o) : Rising (insK o x) := by
  induction o with
  | nil => simp [insK, Rising]
  | cons y o ih =>
    obtain ⟨h1, h2⟩ := List.pairwise_cons.1 h
    unfold insK
    split
    · rename_i hc
      refine List.pairwise_cons.2 ⟨fun z hz => ?_, ih h2⟩
      rcases insK_mem.1 hz with e | e
      · subst e; exact (cmpK_lt _ _).1 hc
      · exact h1 _ e
    · rename_i hc
      split
      · exact h
      · rename_i hn
        have hxy : kLt x y := by
          rcases kLt_tri x y with e | e | e
          · exact e
          · exact absurd e.symm hn
          · exact absurd ((cmpK_lt _ _).2 e) hc
        refine List.pairwise_cons.2 ⟨fun z hz => ?_, h⟩
        rcases List.mem_cons.1 hz with e | e
        · subst e; exact hxy
        · exact kLt_trans hxy (h1 _ e)
theorem keysOf_app (l : List Key) (x : Key) : keysOf (l ++ [x]) = insK (keysOf l) x := by simp [keysOf, List.foldl_append]
theorem foldl_insK (l : List Key) : ∀ o, Rising o → Rising (l.foldl insK o) ∧ ∀ z, z ∈ l.foldl insK o ↔ z ∈ l ∨ z ∈ o := by
  induction l with
  | nil => intro o h; exact ⟨h, by simp⟩
  | cons x l ih =>
    intro o h
    obtain ⟨h1, h2⟩ := ih _ (insK_rising (x := x) h)
    refine ⟨h1, fun z => ?_⟩
    simp only [List.foldl_cons]
    rw [h2 z, insK_mem, List.mem_cons]
    constructor
    · rintro (h | h | h) <;> simp [h]
    · rintro ((h | h) | h) <;> simp [h]
theorem keysOf_rising (l : List Key) : Rising (keysOf l) := (foldl_insK l [] List.Pairwise.nil).1
theorem mem_keysOf {l : List Key} {z : Key} : z ∈ keysOf l ↔ z ∈ l := by
  have := (foldl_insK l [] List.Pairwise.nil).2 z
  simpa [keysOf] using this
theorem comp_rising {l : List Key} (h : l.Pairwise fun x y => ¬ kLt y x) : Rising (comp l) := by
  have hT : ∀ (l : List Key) (p : Key), (p :: l).Pairwise (fun x y => ¬ kLt y x) → Rising (p :: compT p l) := fun l => by
    induction l with
    | nil => intro p _; simp [compT, Rising]
    | cons x l ih =>
      intro p hp
      obtain ⟨h1, h2⟩ := List.pairwise_cons.1 hp
      simp only [compT]
      by_cases hx : x = p
      · subst hx; rw [if_pos rfl]; exact ih _ h2
      · rw [if_neg hx]
        have hpx : kLt p x := by
          rcases kLt_tri p x with e | e | e
          · exact e
          · exact absurd e.symm hx
          · exact absurd e (h1 x (by simp))
        have := ih x h2
        refine List.pairwise_cons.2 ⟨fun z hz => ?_, this⟩
        rcases List.mem_cons.1 hz with e | e
        · subst e; exact hpx
        · exact kLt_trans hpx ((List.pairwise_cons.1 this).1 z e)
  cases l with
  | nil => simp [comp, Rising]
  | cons x l => exact hT l x h
theorem keys_sorted (l : List Key) : comp (sortK l) = keysOf l := by
  refine Rising.eq (comp_rising ?_) (keysOf_rising l) fun x => ?_
  · have := List.pairwise_mergeSort (le := fun x y => !ltOf cmpK y x) (fun x y z h1 h2 => ?_) (fun x y => ?_) l
    · refine this.imp fun h => ?_
      simpa [ltOf, cmpK_lt] using h
    · simp only [ltOf, cmpK_lt, Bool.not_eq_true', decide_eq_false_iff_not, kLt] at *; omega
    · simp only [ltOf, cmpK_lt, kLt, Bool.or_eq_true, Bool.not_eq_true', decide_eq_false_iff_not]; omega
  · rw [mem_comp, mem_keysOf]; exact List.mem_mergeSort
theorem sortK_len (l : List Key) : (sortK l).length = l.length := by simp [sortK]
theorem len_keys {l : List Key} (h : l.length ≤ 4294967296) : (sortK l).length ≤ 4294967296 := by rw [sortK_len]; exact h
end Go.Proofs.Ythmhbonhagjnnaa
