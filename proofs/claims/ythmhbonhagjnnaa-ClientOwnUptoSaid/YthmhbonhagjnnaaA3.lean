/- The sort of keys. -/
import Derived.Test.YthmhbonhagjnnaaProg
import Derived.Test.YthmhbonhagjnnaaA2
import Derived.Test.YthmhbonhagjnnaaSo
import Derived.Test.YthmhbonhagjnnaaSortL
import Derived.KernelRfl
namespace Go.Proofs.Ythmhbonhagjnnaa
open Go.RowKit Go.Sort
set_option linter.unusedVariables false
set_option linter.unusedSimpArgs false

theorem sortF {v : Value} {l : List Key} {w base : World} (ho : Ow w base 40 KeyE v l) (hb : Le base w) (hn : l.length ≤ 4294967296) :
    Fn Try.prog 133 #[v, .func (.func 132) #[] #[]] w fun _ w' => Le base w' ∧ Ow w' base 40 KeyE v (sortK l) := by
  rcases Nat.eq_zero_or_pos l.length with h0 | h0
  · obtain rfl := List.eq_nil_of_length_eq_zero h0
    obtain ⟨A, c, hv⟩ := ho.rd.sh.form
    have h := AnyF.slices_SortFunc_none (P := Try.prog) (ρ := Try.sortL_ren) { Try.sortL with } A c (.func (.func 132) #[] #[]) w
    rw [hv]
    exact Calls.mono h fun e w' ⟨he, hw⟩ => ⟨_, he, by rw [hw]; exact hb, by rw [hw, ← hv]; simpa [sortK] using ho⟩
  · obtain ⟨c, hv⟩ := ho.rd.sh.pos h0
    have hz : offOf v = 0 := by
      rcases ho.2 with ⟨h, _⟩ | ⟨g', cap', cur, h, _⟩ <;> rw [h] <;> rfl
    rw [hz] at hv
    generalize blkOf v = gb at hv
    subst hv
    have hlt : gb < w.heap.size := by
      rcases ho.2 with ⟨h, _⟩ | ⟨g', cap', cur, h, _, hh, _⟩
      · cases h
      · cases h; exact (Array.getElem?_eq_some_iff.1 hh).1
    have hcmp : CmpLays Try.prog 132 #[] KeyE.f 2 cmpK gb 0 l.toArray.size w := fun m os dk _ x y =>
      Calls.mono (shcmp (a := x) (b := y)) fun e w' ⟨v, he, hv, hl⟩ => ⟨by rw [he, hv], hl.grown⟩
    have h := AnyQ.slices_SortFunc_total Try.sortL 2 ag40.agg ag40.size KeyE.f KeyE.len KeyE.one cmpK cmpK_swo 132 #[] gb 0 c l.toArray w (enters_of Try.func132 (by kernel_rfl) rfl) hcmp (ho.holds (by decide)) hlt (by simp; omega) cmpK_tot
    exact Calls.mono h fun e w' ⟨he, n, os, hw⟩ => ⟨_, he, ho.sorted (by decide) hb (by simp [sortK]) hw⟩

end Go.Proofs.Ythmhbonhagjnnaa
