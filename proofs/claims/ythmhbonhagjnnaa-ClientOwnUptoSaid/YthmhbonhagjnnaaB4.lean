/- Procedures: what is put off recovers. -/
import Derived.Test.YthmhbonhagjnnaaProg
import Derived.Test.YthmhbonhagjnnaaB3
import Derived.Test.YthmhbonhagjnnaaDd
import Derived.KernelRfl
namespace Go.Proofs.Ythmhbonhagjnnaa
open Go.RowKit
set_option linter.unusedVariables false
set_option linter.unusedSimpArgs false
theorem im20 : Try.prog.underlying 20 = some (.interface (Try.prog.methodsAt 20)) := by kernel_rfl
theorem has117 : Has Try.prog 117 Try.f117 := ⟨Try.func117, by kernel_rfl, rfl⟩
theorem sz136 : ∀ w, (sizeOf 136).run Try.prog w = .ok 1 w := fun _ => by kernel_rfl
theorem sz28 : ∀ w, (sizeOf 28).run Try.prog w = .ok 1 w := fun _ => by kernel_rfl
theorem dec1r {b1 b2 : Nat} {w : World} :
    CallsD Try.prog 116 #[.pointer (some ⟨b1, 0, none⟩), .pointer (some ⟨b2, 0, none⟩)] .returning w fun en u' w' => ∃ v, en = .returned v ∧ settle u' = .returning ∧ w' = w := by
 refine CallsD.rec (N := 8) (args := [.pointer (some ⟨b1, 0, none⟩), .pointer (some ⟨b2, 0, none⟩)]) Try.func116 rfl rfl rfl rfl rfl rfl rfl (.inl ⟨rfl, rfl, rfl⟩) ?_
 refine W_seq ?_
 refine W_reg (.pure 0 (.pure 1 .nil)) rfl ?_
 refine LP rfl rfl rfl (xmv rfl) ?_
 refine LP rfl rfl rfl (xinn im20 rfl) ?_
 refine LZ ?_
 refine F_seq ?_
 refine W_else rfl ?_
 refine W_skip ?_
 exact F_S rfl ⟨_, rfl, rfl, rfl⟩
theorem dec1p {e : Int} {b1 b2 : Nat} {x y : Value} {w : World} (hne : b1 ≠ b2) (h1 : w.heap[b1]? = some (.cells #[x] 136 (0, 0))) (h2 : w.heap[b2]? = some (.cells #[y] 28 (0, 0))) :
    CallsD Try.prog 116 #[.pointer (some ⟨b1, 0, none⟩), .pointer (some ⟨b2, 0, none⟩)] (.panicking [{ v := .iface 211 (.agg #[.int .i64 e]), recovered := false }]) w fun en u' w' => ∃ v, en = .returned v ∧ settle u' = .returning ∧ Lx [b1, b2] w w' ∧ w'.heap[b1]? = some (.cells #[.slice none 0 0] 136 (0, 0)) ∧ w'.heap[b2]? = some (.cells #[.int .i64 e] 28 (0, 0)) := by
 refine CallsD.rec (N := 8) (args := [.pointer (some ⟨b1, 0, none⟩), .pointer (some ⟨b2, 0, none⟩)]) Try.func116 rfl rfl rfl rfl rfl rfl rfl (.inr ⟨[], rfl, rfl⟩) ?_
 refine W_seq ?_
 refine W_reg (.pure 0 (.pure 1 .nil)) rfl ?_
 refine LP rfl rfl rfl (xmv rfl) ?_
 refine LP rfl rfl rfl (xin im20 rfl rfl) ?_
 refine LZ ?_
 refine F_seq ?_
 refine W_if rfl ?_
 refine W_reg (.pure 0 (.one 1 (.one 2 (.one 3 .nil)))) rfl ?_
 refine LP rfl rfl rfl (xmv rfl) ?_
 refine LF rfl rfl rfl has117 rfl (c_caught) ?_
 rintro _ w1 ⟨rfl, hl1⟩
 refine ⟨trivial, ?_⟩
 refine LU rfl rfl (xsb sz136 (Le.bk hl1 h1) rfl rfl Sh.nil.cells rfl rfl (al_cons rfl al_nil)) ?_
 rintro w2 ⟨hq1, hb1⟩
 dsimp only [put] at hb1
 have hk1 := hq1.bk (ni_ne (Ne.symm hne) ni_nil) (Le.bk hl1 h2)
 refine ⟨trivial, ?_⟩
 refine LU rfl rfl (xsb sz28 hk1 rfl rfl (int_cells _ _) rfl rfl (al_cons rfl al_nil)) ?_
 rintro w3 ⟨hq2, hb2⟩
 dsimp only [put] at hb2
 have hk2 := hq2.bk (ni_ne hne ni_nil) hb1
 refine ⟨trivial, ?_⟩
 refine LZ ?_
 have lx1 : Lx [b1, b2] w w2 := (hq1.drop (Lx.trans (Lx.refl _ _) hl1.lx) (dr_in (by simp) dr_nil))
 have lx2 : Lx [b1, b2] w w3 := (hq2.drop lx1 (dr_in (by simp) dr_nil))
 exact F_S rfl ⟨_, rfl, rfl, lx2, hk2, hb2⟩
end Go.Proofs.Ythmhbonhagjnnaa
