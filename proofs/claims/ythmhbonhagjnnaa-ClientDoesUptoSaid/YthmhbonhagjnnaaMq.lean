/- Maps as lists: what a key has, behind updates; the set of addresses at which instructions begin. -/
import Derived.Test.YthmhbonhagjnnaaMp
import Derived.Test.YthmhbonhagjnnaaWk
namespace Go.Proofs.Ythmhbonhagjnnaa
open Go.RowKit
set_option linter.unusedVariables false
set_option linter.unusedSimpArgs false
set_option linter.unusedSectionVars false
section
variable {α β : Type} [DecidableEq α]
theorem fndI_succ (k : α) : ∀ (l : List (α × β)) (i : Nat), fndI k l (i + 1) = (fndI k l i).map fun p => (p.1 + 1, p.2)
  | [], i => rfl
  | e :: l, i => by
    simp only [fndI]
    split
    · rfl
    · exact fndI_succ k l (i + 1)
theorem getM_nil (k : α) : getM ([] : List (α × β)) k = none := rfl
theorem getM_cons (p : α × β) (l : List (α × β)) (k : α) : getM (p :: l) k = if k = p.1 then some p.2 else getM l k := by
  unfold getM
  simp only [fndI]
  split
  · rfl
  · rw [fndI_succ, Option.map_map]; rfl
theorem setM_nil (k : α) (v : β) : setM [] k v = [(k, v)] := rfl
theorem setM_cons (p : α × β) (l : List (α × β)) (k : α) (v : β) : setM (p :: l) k v = if k = p.1 then (k, v) :: l else p :: setM l k v := by
  unfold setM
  simp only [fndI]
  by_cases h : k = p.1
  · simp [h]
  · simp only [h, if_false]
    rw [fndI_succ]
    cases hf : fndI k l 0 with
    | none => simp
    | some q => simp
theorem getM_setM (l : List (α × β)) (k q : α) (v : β) : getM (setM l k v) q = if q = k then some v else getM l q := by
  induction l with
  | nil => rw [setM_nil, getM_cons]
  | cons p l ih =>
    rw [setM_cons]
    by_cases h : k = p.1
    · rw [if_pos h, getM_cons, getM_cons]
      by_cases hq : q = k
      · simp [hq]
      · have : ¬ q = p.1 := fun e => hq (e.trans h.symm)
        simp [hq, this]
    · rw [if_neg h, getM_cons, getM_cons, ih]
      by_cases hq : q = k
      · have : ¬ q = p.1 := fun e => h (hq.symm.trans e)
        subst hq
        simp [this]
      · simp [hq]
theorem setM_keys (l : List (α × β)) (k : α) (v : β) : (setM l k v).map (·.1) = if k ∈ l.map (·.1) then l.map (·.1) else l.map (·.1) ++ [k] := by
  induction l with
  | nil => rfl
  | cons p l ih =>
    rw [setM_cons]
    by_cases h : k = p.1
    · simp [h]
    · simp only [h, if_false, List.map_cons, ih, List.mem_cons, false_or]
      split <;> simp
theorem getM_none {l : List (α × β)} {k : α} : getM l k = none ↔ k ∉ l.map (·.1) := by
  unfold getM
  rw [Option.map_eq_none_iff]
  exact fndI_none
theorem getM_mem {l : List (α × β)} {k : α} {v : β} (h : getM l k = some v) : (k, v) ∈ l := by
  induction l with
  | nil => cases h
  | cons p l ih =>
    rw [getM_cons] at h
    split at h
    · rename_i e; cases h; subst e; simp
    · exact List.mem_cons_of_mem _ (ih h)
theorem getM_of_mem {l : List (α × β)} (hn : (l.map (·.1)).Nodup) {k : α} {v : β} (h : (k, v) ∈ l) : getM l k = some v := by
  induction l with
  | nil => cases h
  | cons p l ih =>
    rw [getM_cons]
    simp only [List.map_cons, List.nodup_cons] at hn
    rcases List.mem_cons.1 h with e | e
    · subst e; simp
    · have : ¬ k = p.1 := fun e' => hn.1 (by rw [← e']; exact List.mem_map.2 ⟨(k, v), e, rfl⟩)
      rw [if_neg this]; exact ih hn.2 e
end
/-! ### Where instructions begin -/
def begM (l : List Instr) : List (Int × Bool) := l.foldl (fun m x => setM m x.1 true) []
theorem begM_step {l : List Instr} {k : Nat} {x : Instr} (h : l[k]? = some x) : begM (l.take (k + 1)) = setM (begM (l.take k)) x.1 true := by
  unfold begM
  rw [List.take_add_one, h, List.foldl_append]; rfl
theorem begM_get (l : List Instr) (p : Int) : getM (begM l) p = if beginsB l p then some true else none := by
  unfold begM
  have : ∀ (l : List Instr) (m : List (Int × Bool)), getM (l.foldl (fun m x => setM m x.1 true) m) p = if beginsB l p then some true else getM m p := fun l => by
    induction l with
    | nil => intro m; simp [beginsB]
    | cons x l ih =>
      intro m
      rw [List.foldl_cons, ih, getM_setM]
      unfold beginsB
      by_cases h1 : x.1 = p
      · simp [h1]
      · have h2 : ¬ p = x.1 := fun e => h1 e.symm
        rw [List.any_cons, decide_eq_false h1, Bool.false_or, if_neg h2]
  rw [this]; simp [getM_nil]
theorem begM_look {l : List Instr} {k : Nat} (hk : l.length ≤ k) (p : Int) : ((getM (begM (l.take k)) p).map Value.bool).getD (.bool false) = .bool (beginsB l p) := by
  rw [List.take_of_length_le hk, begM_get]
  cases beginsB l p <;> rfl
/-! ### What stands behind an instruction is small -/
theorem getD_rng {b : List Int} (hB : ∀ x ∈ b, 0 ≤ x ∧ x ≤ 255) (n : Nat) : 0 ≤ b.getD n 0 ∧ b.getD n 0 ≤ 255 := by
  rw [List.getD_eq_getElem?_getD]
  cases h : b[n]? with
  | none => simp
  | some x => exact hB x (List.mem_of_getElem? h)
theorem imm_rng {b : List Int} (hB : ∀ x ∈ b, 0 ≤ x ∧ x ≤ 255) (n : Nat) (op : Int) : -32768 ≤ immR b n op ∧ immR b n op < 65536 := by
  unfold immR
  have h1 := getD_rng hB (placeI n op)
  have h2 := getD_rng hB (placeI n op + 1)
  repeat (first | omega | split)
theorem one_imm {b : List Int} (hB : ∀ x ∈ b, 0 ≤ x ∧ x ≤ 255) (p : Int) : -32768 ≤ (oneR b p).1.2.2.2.2 ∧ (oneR b p).1.2.2.2.2 < 65536 := by
  have h := imm_rng hB p.toNat (b.getD p.toNat 0)
  unfold oneR
  split
  · simp [zeroI]
  · split
    · simp [zeroI]
    · split
      · simp [zeroI]
      · exact h
theorem walkF_imm {b : List Int} (hB : ∀ x ∈ b, 0 ≤ x ∧ x ≤ 255) : ∀ (k : Nat) (p : Int), ∀ x ∈ (walkF b k p).1, -32768 ≤ x.2.2.2.2 ∧ x.2.2.2.2 < 65536
  | 0, p => by simp [walkF]
  | k + 1, p => by
    have ih := walkF_imm hB k (oneR b p).2.1
    unfold walkF
    intro x hx
    split at hx
    · simp at hx
    · split at hx
      · rcases List.mem_cons.1 hx with e | e
        · subst e; exact one_imm hB p
        · exact ih x e
      · simp at hx
theorem decode_imm {b : List Int} (hB : ∀ x ∈ b, 0 ≤ x ∧ x ≤ 255) : ∀ x ∈ (decodeR b).1, -32768 ≤ x.2.2.2.2 ∧ x.2.2.2.2 < 65536 := fun x hx => by
  unfold decodeR at hx
  split at hx
  · simp at hx
  · split at hx
    · simp at hx
    · split at hx
      · simp at hx
      · exact walkF_imm hB _ _ x hx
end Go.Proofs.Ythmhbonhagjnnaa
