/- slices.SortFunc over the shelf's contract: a row of one's own behind the sort. -/
import Derived.Test.YthmhbonhagjnnaaData
import Derived.Shelf.SlSortCmp.NoneTotal
namespace Go.Proofs.Ythmhbonhagjnnaa
open Go.RowKit Go.Sort
set_option linter.unusedVariables false
set_option linter.unusedSimpArgs false

theorem Le.grown {w w' : World} (h : Le w w') : ∃ q os, w' = grow (w.drewN q) os := by
  refine ⟨w'.drawn - w.drawn, w'.heap.extract w.heap.size w'.heap.size, ?_⟩
  have h1 := h.bel.os
  have h2 := h.bel.tape
  have h3 := h.bel.output
  have h4 := h.dr
  have h5 : w'.heap = w.heap ++ w'.heap.extract w.heap.size w'.heap.size := by
    apply Array.ext_getElem?
    intro i
    rw [Array.getElem?_append]
    split
    · exact h.bel.block i ‹_›
    · rename_i hi
      rw [Array.getElem?_extract]
      split
      · rw [Nat.add_sub_cancel' (Nat.le_of_not_lt hi)]
      · rename_i h6
        have := h.size
        rw [Array.getElem?_eq_none (by omega)]
  obtain ⟨hp, tp, dr, os, out⟩ := w
  obtain ⟨hp', tp', dr', os', out'⟩ := w'
  simp only [World.drewN, grow] at *
  subst h1; subst h2; subst h3
  simp only [World.mk.injEq, true_and, and_true]
  exact ⟨h5, by omega⟩

theorem flatK_eq {α : Type} [Inhabited α] (E : Enc α) (hk : 0 < E.k) (l : List α) : (flatK E.f E.k l.toArray).toList = l.flatMap E.f := by
  apply List.ext_getElem?
  intro j
  by_cases hj : j < l.length * E.k
  · have hq : j / E.k < l.length := (Nat.div_lt_iff_lt_mul hk).2 hj
    have hr : j % E.k < (E.f l[j / E.k]).length := by rw [E.len]; exact Nat.mod_lt _ hk
    have h1 := flat_at E l (j / E.k) l[j / E.k] (j % E.k) _ (List.getElem?_eq_getElem hq) (List.getElem?_eq_getElem hr)
    rw [Nat.div_add_mod' j E.k] at h1
    rw [h1]
    have h2 := get_flatK E.f E.k l.toArray j (by simpa using hj)
    have h3 : (flatK E.f E.k l.toArray).toList[j]? = some ((flatK E.f E.k l.toArray)[j]!) := by
      rw [Array.getElem?_toList, Array.getElem!_eq_getD, Array.getD_eq_getD_getElem?, Array.getElem?_eq_getElem (by simpa using hj)]
      rfl
    rw [h3, h2]
    simp [hq, hr]
  · rw [List.getElem?_eq_none (by simp; omega), List.getElem?_eq_none (by rw [flat_len]; omega)]

theorem putCells_take (F : Array Value) (cur : Array Value) (h : F.size ≤ cur.size) : (putCells id 0 F cur).toList.take F.size = F.toList := by
  apply List.ext_getElem?
  intro j
  by_cases hj : j < F.size
  · rw [List.getElem?_take_of_lt hj]
    have hc : j < cur.size := by omega
    simp [putCells, hj, hc]
  · rw [List.getElem?_take_eq_none (by omega), List.getElem?_eq_none (by simp; omega)]

theorem Ow.holds {α : Type} [Inhabited α] {w base : World} {e : TypeId} {E : Enc α} {l : List α} {g cap : Nat} (hk : 0 < E.k) (ho : Ow w base e E (.slice (some ⟨g, 0, none⟩) l.length cap) l) : HoldsK E.f E.k w g 0 l.toArray := by
  obtain ⟨_, h2⟩ := ho
  rcases h2 with ⟨hv, _⟩ | ⟨g', cap', cur, hv, hg, hh, hc, hm, hs, ht⟩
  · cases hv
  · cases hv
    intro j hj
    have hj' : j < l.length * E.k := by simpa using hj
    have hF : (l.flatMap E.f)[j]? = some ((flatK E.f E.k l.toArray)[j]!) := by
      rw [← flatK_eq E hk l, Array.getElem?_toList, Array.getElem!_eq_getD, Array.getD_eq_getD_getElem?, Array.getElem?_eq_getElem hj]
      rfl
    constructor
    · rw [cell_cl]
      refine cl_bk hh ?_
      rw [← ht, List.getElem?_take_of_lt hj'] at hF
      simpa using hF
    · simp [World.frozen?, hh]

theorem Ow.sorted {α : Type} [Inhabited α] {w base w' : World} {e : TypeId} {E : Enc α} {l l' : List α} {g cap n : Nat} {os : Array Obj} (hk : 0 < E.k) (hb : Le base w) (ho : Ow w base e E (.slice (some ⟨g, 0, none⟩) l.length cap) l) (hl : l'.length = l.length)
    (hw : w' = sortWorldK E.f E.k w g 0 n l'.toArray os) : Le base w' ∧ Ow w' base e E (.slice (some ⟨g, 0, none⟩) l.length cap) l' := by
  obtain ⟨h1, h2⟩ := ho
  rcases h2 with ⟨hv, _⟩ | ⟨g', cap', cur, hv, hg, hh, hc, hm, hs, ht⟩
  · cases hv
  · cases hv
    have hlt : g < w.heap.size := (Array.getElem?_eq_some_iff.1 hh).1
    have hheap : ∀ k, w'.heap[k]? = if k < w.heap.size then (if k = g then some (.cells (putCells id 0 (flatK E.f E.k l'.toArray) cur) e (0, 0)) else w.heap[k]?) else os[k - w.heap.size]? := fun k => by
      rw [hw]
      simp only [sortWorldK, grow, putRowK, putRow, mapBlock, Sort.ahead, Array.getElem?_append, Array.size_modify]
      split
      · rw [Array.getElem?_modify]
        by_cases hkg : k = g
        · subst hkg
          simp [hh, onCells]
        · simp [hkg, Ne.symm hkg]
      · rfl
    have hsz : w.heap.size ≤ w'.heap.size := by rw [hw]; simp [sortWorldK, putRowK]
    refine ⟨⟨⟨?_, ?_, ?_, ?_, fun k hkb => ?_⟩, ?_⟩, ?_, .inr ⟨g, cap, putCells id 0 (flatK E.f E.k l'.toArray) cur, by rw [hl], hg, ?_, by omega, hm, ?_, ?_⟩⟩
    · rw [hw]; exact hb.bel.os
    · rw [hw]; exact hb.bel.tape
    · rw [hw]; exact hb.bel.output
    · exact Nat.le_trans hb.size hsz
    · have hkw : k < w.heap.size := Nat.lt_of_lt_of_le hkb hb.size
      rw [hheap k, if_pos hkw, if_neg (by omega)]
      exact hb.bel.block k hkb
    · rw [hw]; exact Nat.le_trans hb.dr (by simp [sortWorldK, putRowK, grow, putRow, mapBlock, Sort.ahead])
    · exact flat_len E l'
    · rw [hheap g, if_pos hlt, if_pos rfl]
    · simp [putCells, hs]
    · have h5 : (flatK E.f E.k l'.toArray).size = l'.length * E.k := by simp
      rw [← h5, putCells_take _ _ (by rw [h5, hs, hl]; exact Nat.mul_le_mul_right _ hc), flatK_eq E hk l']

/-- Keys, sorted. -/
def sortK (l : List Key) : List Key := l.mergeSort fun x y => !ltOf cmpK y x
theorem cmpK_lt (x y : Key) : cmpK x y < 0 ↔ kLt x y := by
  unfold cmpK kLt
  split
  · simp [*]
  · split <;> simp [*]
theorem cmpK_swo : SWO (ltOf cmpK) where
  irrefl x := by simp only [ltOf, cmpK_lt, kLt, decide_eq_false_iff_not]; omega
  trans x y z h1 h2 := by simp only [ltOf, cmpK_lt, kLt, decide_eq_true_eq] at *; omega
  ntrans x y z h1 h2 := by simp only [ltOf, cmpK_lt, kLt, decide_eq_false_iff_not] at *; omega
theorem cmpK_tot (x y : Key) (h1 : ltOf cmpK x y = false) (h2 : ltOf cmpK y x = false) : x = y := by
  obtain ⟨a, b⟩ := x
  obtain ⟨c, d⟩ := y
  simp only [ltOf, cmpK_lt, kLt, decide_eq_false_iff_not] at *
  simp only [Prod.mk.injEq]; omega
end Go.Proofs.Ythmhbonhagjnnaa
