/- Whatever is submitted, answered, asked and found, and however ticks go by: ClientDoes returns true. For arguments of bulk at most 1048576 (the given row's own bound). -/
import Derived.Test.YthmhbonhagjnnaaRows
import Derived.Test.YthmhbonhagjnnaaOn
import Derived.Test.YthmhbonhagjnnaaD2
import Derived.KernelRfl
namespace Go.Proofs.Ythmhbonhagjnnaa
open Go.ChangeShapes Go.WideShapes Go.ChangeAt Go.RowKit Go.Deep
set_option linter.unusedVariables false
theorem own_clientDoes : ownKnob Try.prog.godebug = none := by kernel_rfl
theorem laid_clientDoes : laidOutB Try.prog = true := by kernel_rfl
set_option maxRecDepth 100000 in
theorem contract_clientDoes (H : Type) (enc : TypeId × Value → H) (W : World) (base : Nat) (args : Array Value) (ds gs : List (DataW H)) (before : List MemPlace)
    (hval : ∀ (j : Nat) t v, Try.f4.params[j]? = some t → args[j]? = some v → Value.okWide Try.prog W .any base t v)
    (hW : DataW.Whole enc Try.prog Try.f4.params.toList Rows.clientDoesSpec.vars false W args.toList ds gs before) (hk : Rows.uptoSmall H (ds ++ gs) = true) :
    Calls Try.prog 4 args W fun e W' => ∃ v, e = .returned v ∧ Rows.clientDoesSpec.post enc Try.prog Try.f4 false true false false W args v W' := by
  have hW' := hW
  obtain ⟨p, q, hA0, hV, rfl, hfz, hnd⟩ := hW
  have hA : DataW.TrodAll enc Try.prog W 0 (fun _ => true) true Try.f4.params.toList args.toList ds p := hA0
  rw [Try.params4] at hA hval
  obtain ⟨v0, vs0, d0, ds0, p0, q0, hargs, rfl, rfl, h0, r0⟩ := trodAll_cons hA
  obtain ⟨v1, vs1, d1, ds1, p1, q1, rfl, rfl, rfl, h1, r1⟩ := trodAll_cons r0
  obtain ⟨v2, vs2, d2, ds2, p2, q2, rfl, rfl, rfl, h2, r2⟩ := trodAll_cons r1
  obtain ⟨rfl, rfl, rfl⟩ := trodAll_nil r2
  obtain rfl : args = #[v0, v1, v2] := by cases args; simp_all
  obtain ⟨rfl, rfl⟩ := trodVars_none hV
  clear hA0 hA
  have hbk : Rows.uptoBulkAll ([d0, d1, d2] ++ []) ≤ 1048576 := of_decide_eq_true hk
  simp only [List.append_nil, Rows.uptoBulkAll] at hbk
  obtain ⟨a0, rfl, rfl, rfl, hw0⟩ := open_int Try.underlying2 (@hval (0 : Nat) (2 : Nat) v0 (by simp) (by simp)) h0
  obtain ⟨a1, rfl, rfl, rfl, hw1⟩ := open_int Try.underlying3 (@hval (1 : Nat) (3 : Nat) v1 (by simp) (by simp)) h1
  obtain ⟨A2, n2, c2, rfl⟩ := okWide_slice Try.underlying45 (@hval (2 : Nat) (45 : Nat) v2 (by simp) (by simp))
  obtain ⟨fuel2, hf2⟩ := h2
  obtain ⟨u2, l2, hc2, ho2, hr2, hq2, hb2⟩ := opn_slice Try.underlying45 (by kernel_rfl) opn57 rfl hf2
  obtain rfl : u2 = .slice A2 n2 c2 := ((List.cons.inj hc2).1).symm
  dsimp only at hb2
  simp only [List.append_nil] at hW'
  have hok : ∀ x ∈ l2, ROk W x := fun x hx => (hq2 x hx).ok (bulk_mem hx) (by omega)
  exact law_post laid_clientDoes (by kernel_rfl) (B := 4) rfl Try.underlying4 rfl rfl hW' (does25 hr2 hok)
set_option maxRecDepth 100000 in
theorem lifted_clientDoes (os : Os) (started : os.Started) (H : Type) (enc : TypeId × Value → H) (F : Stop.Interp) :
    ReturnsInHanded {} Try.checked os 4 .any ((Rows.OpenSpec.upto Rows.clientDoesSpec).pre6 enc Try.prog Try.f4 Rows.clientDoesUptoRow.domain false) (((Rows.OpenSpec.upto Rows.clientDoesSpec).at F).post enc Try.prog Try.f4 false true false false) := by
  refine returnsInHanded_of_cond (C := Try.checked) (s := Rows.OpenSpec.upto Rows.clientDoesSpec) (k := Rows.uptoSmall) rfl own_clientDoes started (by kernel_rfl) Try.func4
    (OpenSpec.witness (enc := enc) (C := Try.checked) (s := Rows.OpenSpec.upto Rows.clientDoesSpec) (k := Rows.uptoSmall) rfl false ⟨#[], #[.int .i64 0, .int .i64 0, .slice none 0 0], []⟩ 8 (by kernel_rfl) (by kernel_rfl) (by kernel_rfl)
      (x := ([.lit (.int .i64 0), .lit (.int .i64 0), .nil], [], [])) (by kernel_rfl) rfl (by kernel_rfl)) ?_
  intro W base args ds gs before hval hW _ hk _
  exact contract_clientDoes H enc W base args ds gs before hval hW hk
theorem clientDoes_holds : Rows.ClientDoesUptoSaid :=
  OpenClaim.holds_of_cond 4 Try.f4 rfl rfl rfl rfl rfl rfl rfl ⟨rfl, rfl, rfl, rfl, rfl⟩ rfl rfl rfl rfl rfl (by kernel_rfl) Try.func4 (by kernel_rfl)
    (of_decide_eq_true (by kernel_rfl)) (by unfold Func.isWrapper; first | (rw [if_pos (by decide +kernel)]; kernel_rfl) | (rw [if_neg (by decide +kernel)]; exact ⟨rfl, rfl⟩))
    (fun os started H enc _ F => lifted_clientDoes os started H enc F)
#print axioms clientDoes_holds
end Go.Proofs.Ythmhbonhagjnnaa
