/- Keys that rise; procedures, read from their beginning on. -/
import Derived.Test.YthmhbonhagjnnaaCd
import Derived.Test.YthmhbonhagjnnaaCo
namespace Go.Proofs.Ythmhbonhagjnnaa
open Go.RowKit
set_option linter.unusedVariables false
set_option linter.unusedSimpArgs false

def risesB : List Key → Bool
  | x :: y :: l => decide (kLt x y) && risesB (y :: l)
  | _ => true
theorem rises_iff (l : List Key) : risesB l = true ↔ ∀ i x y, l[i]? = some x → l[i + 1]? = some y → kLt x y := by
  match l with
  | [] => simp [risesB]
  | [x] => simp [risesB]
  | x :: y :: l =>
    have ih := rises_iff (y :: l)
    simp only [risesB, Bool.and_eq_true, decide_eq_true_eq, ih]
    constructor
    · rintro ⟨h1, h2⟩ i a b ha hb
      cases i with
      | zero => simp at ha hb; subst ha; subst hb; exact h1
      | succ i => exact h2 i a b (by simpa using ha) (by simpa using hb)
    · intro h
      exact ⟨h 0 x y rfl rfl, fun i a b ha hb => h (i + 1) a b (by simpa using ha) (by simpa using hb)⟩
theorem rises_one {l : List Key} (h : l.length ≤ 1) : risesB l = true := by
  match l, h with
  | [], _ => rfl
  | [x], _ => rfl
theorem rises_step {l : List Key} {k : Nat} {x y : Key} (h1 : 1 ≤ k) (hr : risesB (l.take k) = true) (hx : l[k - 1]? = some x) (hy : l[k]? = some y) (h : kLt x y) : risesB (l.take (k + 1)) = true := by
  rw [rises_iff] at hr ⊢
  intro i a b ha hb
  have hb' : i + 1 < k + 1 := by
    have := (List.getElem?_eq_some_iff.1 hb).1
    simp at this; omega
  rw [List.getElem?_take_of_lt (by omega)] at ha hb
  by_cases hi : i + 1 < k
  · exact hr i a b (by rw [List.getElem?_take_of_lt (by omega)]; exact ha) (by rw [List.getElem?_take_of_lt hi]; exact hb)
  · obtain rfl : i = k - 1 := by omega
    rw [show k - 1 + 1 = k by omega, hy] at hb
    rw [hx] at ha
    cases ha; cases hb; exact h
theorem rises_all {l : List Key} {k : Nat} (hr : risesB (l.take k) = true) (h : l.length ≤ k) : true = risesB l := by
  rw [List.take_of_length_le h] at hr; exact hr.symm
theorem rises_no {l : List Key} {k : Nat} {x y : Key} (h1 : 1 ≤ k) (hx : l[k - 1]? = some x) (hy : l[k]? = some y) (h : ¬ kLt x y) : false = risesB l := by
  cases hr : risesB l with
  | false => rfl
  | true => exact absurd ((rises_iff l).1 hr (k - 1) x y hx (by rw [show k - 1 + 1 = k by omega]; exact hy)) h

/-! ### All instructions -/
theorem one_ok {b : List Int} {p : Int} (h : (oneR b p).2.2 = 0) : 0 ≤ p ∧ p < b.length ∧ p + 1 ≤ (oneR b p).2.1 ∧ (oneR b p).2.1 ≤ b.length := by
  unfold oneR at *
  have hr := sizeR_rng (b.getD p.toNat 0)
  split at h
  · simp at h
  · rename_i h1
    rw [if_neg h1]
    split at h
    · simp at h
    · rename_i h2
      rw [if_neg h2]
      split at h
      · simp at h
      · rename_i h3
        rw [if_neg h3]
        dsimp only
        omega
def walkF (b : List Int) : Nat → Int → List Instr × Int
  | 0, _ => ([], 0)
  | k + 1, p => if (b.length : Int) ≤ p then ([], 0) else if (oneR b p).2.2 = 0 then ((oneR b p).1 :: (walkF b k (oneR b p).2.1).1, (walkF b k (oneR b p).2.1).2) else ([], (oneR b p).2.2)
def walkR (b : List Int) : List Instr × Int := walkF b b.length 0
theorem walk_end {b : List Int} {k : Nat} {p : Int} (h : (b.length : Int) ≤ p) : walkF b k p = ([], 0) := by
  cases k with
  | zero => rfl
  | succ k => simp [walkF, h]
theorem walk_goes {b : List Int} {k : Nat} {p : Int} {acc : List Instr} (hw : walkR b = (acc ++ (walkF b k p).1, (walkF b k p).2)) (hk : (b.length : Int) - p ≤ k) (hp : p < b.length) (h : (oneR b p).2.2 = 0) :
    ∃ k', k = k' + 1 ∧ walkR b = ((acc ++ [(oneR b p).1]) ++ (walkF b k' (oneR b p).2.1).1, (walkF b k' (oneR b p).2.1).2) ∧ (b.length : Int) - (oneR b p).2.1 ≤ k' := by
  obtain ⟨k', rfl⟩ : ∃ k', k = k' + 1 := ⟨k - 1, by omega⟩
  have ho := one_ok h
  refine ⟨k', rfl, ?_, by omega⟩
  rw [hw]
  simp only [walkF, if_neg (show ¬ (b.length : Int) ≤ p by omega), h, if_true]
  simp
theorem walk_bad {b : List Int} {k : Nat} {p : Int} {acc : List Instr} (hw : walkR b = (acc ++ (walkF b k p).1, (walkF b k p).2)) (hk : (b.length : Int) - p ≤ k) (hp : p < b.length) (h : ¬ (oneR b p).2.2 = 0) : walkR b = (acc, (oneR b p).2.2) := by
  obtain ⟨k', rfl⟩ : ∃ k', k = k' + 1 := ⟨k - 1, by omega⟩
  rw [hw]
  simp only [walkF, if_neg (show ¬ (b.length : Int) ≤ p by omega), h, if_false]
  simp
theorem walk_done {b : List Int} {k : Nat} {p : Int} {acc : List Instr} (hw : walkR b = (acc ++ (walkF b k p).1, (walkF b k p).2)) (h : (b.length : Int) ≤ p) : walkR b = (acc, 0) := by
  rw [hw, walk_end h]; simp
def beginsB (l : List Instr) (p : Int) : Bool := l.any fun x => decide (x.1 = p)
theorem begins_yes {l : List Instr} {p : Int} {k : Nat} {x : Instr} (hx : l[k]? = some x) (h : x.1 = p) : true = beginsB l p := by
  symm; rw [beginsB, List.any_eq_true]
  exact ⟨x, List.mem_of_getElem? hx, by simpa using h⟩
theorem begins_no {l : List Instr} {p : Int} {k : Nat} (h : ∀ x ∈ l.take k, x.1 ≠ p) (hk : l.length ≤ k) : false = beginsB l p := by
  rw [List.take_of_length_le hk] at h
  symm; rw [beginsB, List.any_eq_false]
  intro x hx; simpa using h x hx
/-- The whole: instructions, errors. -/
def decodeR (b : List Int) : List Instr × Int :=
  if 512 < b.length then ([], 3) else if (walkR b).2 ≠ 0 then ([], (walkR b).2)
  else if (walkR b).1.any (fun x => jumpR x.2.1 && !beginsB (walkR b).1 x.2.2.2.2) then ([], 131) else ((walkR b).1, 0)
theorem walkF_len (b : List Int) : ∀ (k : Nat) (p : Int), ((walkF b k p).1.length : Int) ≤ k
  | 0, p => by simp [walkF]
  | k + 1, p => by
    have := walkF_len b k (oneR b p).2.1
    unfold walkF
    split
    · simp; omega
    · split
      · simp only [List.length_cons]; omega
      · simp; omega
theorem walkR_len (b : List Int) : (walkR b).1.length ≤ b.length := by
  have := walkF_len b b.length 0
  simp only [walkR]; omega
theorem dec_long {b : List Int} (h : 512 < b.length) : decodeR b = ([], 3) := by simp [decodeR, h]
theorem dec_bad {b : List Int} (h : ¬ 512 < b.length) (hz : ¬ (walkR b).2 = 0) : decodeR b = ([], (walkR b).2) := by simp [decodeR, h, hz]
theorem dec_target {b : List Int} {k : Nat} {x : Instr} (h : ¬ 512 < b.length) (hz : (walkR b).2 = 0) (hx : (walkR b).1[k]? = some x) (h1 : jumpR x.2.1 = true) (h2 : beginsB (walkR b).1 x.2.2.2.2 = false) : decodeR b = ([], 131) := by
  have : (walkR b).1.any (fun x => jumpR x.2.1 && !beginsB (walkR b).1 x.2.2.2.2) = true := List.any_eq_true.2 ⟨x, List.mem_of_getElem? hx, by simp [h1, h2]⟩
  simp only [decodeR, h, if_false, hz, ne_eq, not_true, this, if_true]
theorem dec_ok {b : List Int} {k : Nat} (h : ¬ 512 < b.length) (hz : (walkR b).2 = 0) (ht : ∀ x ∈ (walkR b).1.take k, (jumpR x.2.1 && !beginsB (walkR b).1 x.2.2.2.2) = false) (hk : (walkR b).1.length ≤ k) : decodeR b = ((walkR b).1, 0) := by
  rw [List.take_of_length_le hk] at ht
  have : (walkR b).1.any (fun x => jumpR x.2.1 && !beginsB (walkR b).1 x.2.2.2.2) = false := List.any_eq_false.2 fun x hx => by simp [ht x hx]
  simp only [decodeR, h, if_false, hz, ne_eq, not_true, this, Bool.false_eq_true]
theorem decodeR_len (b : List Int) : (decodeR b).1.length ≤ b.length := by
  have := walkR_len b
  unfold decodeR
  split
  · simp
  · split
    · simp
    · split
      · simp
      · exact this
/-! ### Whether a transaction may run -/
structure Txn where
  se : Int
  rq : Int
  code : List Int
  args : List Int
  reads : List Key
  writes : List Key
def idxBad (t : Txn) (x : Instr) : Bool :=
  if x.2.1 = 3 ∨ x.2.1 = 4 then decide ((t.reads.length : Int) ≤ x.2.2.2.2) else if x.2.1 = 5 ∨ x.2.1 = 6 then decide ((t.writes.length : Int) ≤ x.2.2.2.2)
  else if x.2.1 = 2 then decide ((t.args.length : Int) ≤ x.2.2.2.2) else false
def checkR (t : Txn) : Int :=
  if t.se < 1 ∨ 1099511627776 < t.se ∨ t.rq < 1 ∨ 1099511627776 < t.rq then 1
  else if 8 < t.args.length ∨ 16 < t.reads.length ∨ 16 < t.writes.length then 3
  else if risesB t.reads = false ∨ risesB t.writes = false then 1
  else if (decodeR t.code).2 ≠ 0 then (decodeR t.code).2
  else if (decodeR t.code).1.any (idxBad t) then 132 else 0
theorem check_idx {t : Txn} {k : Nat} {x : Instr} (h1 : ¬ (t.se < 1 ∨ 1099511627776 < t.se ∨ t.rq < 1 ∨ 1099511627776 < t.rq)) (h2 : ¬ (8 < t.args.length ∨ 16 < t.reads.length ∨ 16 < t.writes.length)) (h3 : ¬ (risesB t.reads = false ∨ risesB t.writes = false)) (h4 : (decodeR t.code).2 = 0)
    (hx : (decodeR t.code).1[k]? = some x) (hb : idxBad t x = true) : checkR t = 132 := by
  have : (decodeR t.code).1.any (idxBad t) = true := List.any_eq_true.2 ⟨x, List.mem_of_getElem? hx, hb⟩
  simp only [checkR, h1, h2, h3, if_false, h4, ne_eq, not_true, this, if_true]
theorem check_ok {t : Txn} {k : Nat} (h1 : ¬ (t.se < 1 ∨ 1099511627776 < t.se ∨ t.rq < 1 ∨ 1099511627776 < t.rq)) (h2 : ¬ (8 < t.args.length ∨ 16 < t.reads.length ∨ 16 < t.writes.length)) (h3 : ¬ (risesB t.reads = false ∨ risesB t.writes = false)) (h4 : (decodeR t.code).2 = 0)
    (hn : ∀ x ∈ (decodeR t.code).1.take k, idxBad t x = false) (hk : (decodeR t.code).1.length ≤ k) : checkR t = 0 := by
  rw [List.take_of_length_le hk] at hn
  have : (decodeR t.code).1.any (idxBad t) = false := List.any_eq_false.2 fun x hx => by simp [hn x hx]
  simp only [checkR, h1, h2, h3, if_false, h4, ne_eq, not_true, this, Bool.false_eq_true]
end Go.Proofs.Ythmhbonhagjnnaa
