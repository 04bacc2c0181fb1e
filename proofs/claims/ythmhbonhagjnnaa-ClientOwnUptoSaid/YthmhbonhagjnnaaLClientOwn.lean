/- Whatever transaction comes: the session's memory is nobody else's: ClientOwn returns true. For arguments of bulk at most 1048576 (the given row's own bound). -/
import Derived.Test.YthmhbonhagjnnaaRows
import Derived.Test.YthmhbonhagjnnaaOn
import Derived.Test.YthmhbonhagjnnaaD1
import Derived.KernelRfl
namespace Go.Proofs.Ythmhbonhagjnnaa
open Go.ChangeShapes Go.WideShapes Go.ChangeAt Go.RowKit Go.Deep
set_option linter.unusedVariables false
theorem own_clientOwn : ownKnob Try.prog.godebug = none := by kernel_rfl
theorem laid_clientOwn : laidOutB Try.prog = true := by kernel_rfl
set_option maxRecDepth 100000 in
theorem contract_clientOwn (H : Type) (enc : TypeId × Value → H) (W : World) (base : Nat) (args : Array Value) (ds gs : List (DataW H)) (before : List MemPlace)
    (hval : ∀ (j : Nat) t v, Try.f3.params[j]? = some t → args[j]? = some v → Value.okWide Try.prog W .any base t v)
    (hW : DataW.Whole enc Try.prog Try.f3.params.toList Rows.clientOwnSpec.vars false W args.toList ds gs before) (hk : Rows.uptoSmall H (ds ++ gs) = true) :
    Calls Try.prog 3 args W fun e W' => ∃ v, e = .returned v ∧ Rows.clientOwnSpec.post enc Try.prog Try.f3 false true false false W args v W' := by
  have hW' := hW
  obtain ⟨p, q, hA0, hV, rfl, hfz, hnd⟩ := hW
  have hA : DataW.TrodAll enc Try.prog W 0 (fun _ => true) true Try.f3.params.toList args.toList ds p := hA0
  rw [Try.params3] at hA hval
  obtain ⟨v0, vs0, d0, ds0, p0, q0, hargs, rfl, rfl, h0, r0⟩ := trodAll_cons hA
  obtain ⟨rfl, rfl, rfl⟩ := trodAll_nil r0
  obtain rfl : args = #[v0] := by cases args; simp_all
  obtain ⟨rfl, rfl⟩ := trodVars_none hV
  clear hA0 hA
  have hbk : Rows.uptoBulkAll ([d0] ++ []) ≤ 1048576 := of_decide_eq_true hk
  simp only [List.append_nil, Rows.uptoBulkAll] at hbk
  obtain ⟨cs0, rfl, hsz0⟩ := okWide_struct Try.underlying26 (@hval (0 : Nat) (26 : Nat) v0 (by simp) (by simp))
  obtain ⟨fuel0, hf0⟩ := h0
  obtain ⟨r0', hc0, hq0, hb0⟩ := opn26 H enc W fuel0 _ _ hf0
  obtain rfl : cs0 = (TxnE.f r0').toArray := Array.toList_inj.1 (show cs0.toList = _ from hc0)
  dsimp only at hb0
  simp only [List.append_nil] at hW'
  exact law_post laid_clientOwn (by kernel_rfl) (B := 4) rfl Try.underlying4 rfl rfl hW' (own25 hq0.c hq0.a hq0.r hq0.w (TB_small hb0 (by omega)) hq0.by_)
set_option maxRecDepth 100000 in
theorem lifted_clientOwn (os : Os) (started : os.Started) (H : Type) (enc : TypeId × Value → H) (F : Stop.Interp) :
    ReturnsInHanded {} Try.checked os 3 .any ((Rows.OpenSpec.upto Rows.clientOwnSpec).pre6 enc Try.prog Try.f3 Rows.clientOwnUptoRow.domain false) (((Rows.OpenSpec.upto Rows.clientOwnSpec).at F).post enc Try.prog Try.f3 false true false false) := by
  refine returnsInHanded_of_cond (C := Try.checked) (s := Rows.OpenSpec.upto Rows.clientOwnSpec) (k := Rows.uptoSmall) rfl own_clientOwn started (by kernel_rfl) Try.func3
    (OpenSpec.witness (enc := enc) (C := Try.checked) (s := Rows.OpenSpec.upto Rows.clientOwnSpec) (k := Rows.uptoSmall) rfl false ⟨#[], #[.agg #[.int .i64 0, .int .i64 0, .slice none 0 0, .slice none 0 0, .slice none 0 0, .slice none 0 0]], []⟩ 8 (by kernel_rfl) (by kernel_rfl) (by kernel_rfl)
      (x := ([.agg [.lit (.int .i64 0), .lit (.int .i64 0), .nil, .nil, .nil, .nil]], [], [])) (by kernel_rfl) rfl (by kernel_rfl)) ?_
  intro W base args ds gs before hval hW _ hk _
  exact contract_clientOwn H enc W base args ds gs before hval hW hk
theorem clientOwn_holds : Rows.ClientOwnUptoSaid :=
  OpenClaim.holds_of_cond 3 Try.f3 rfl rfl rfl rfl rfl rfl rfl ⟨rfl, rfl, rfl, rfl, rfl⟩ rfl rfl rfl rfl rfl (by kernel_rfl) Try.func3 (by kernel_rfl)
    (of_decide_eq_true (by kernel_rfl)) (by unfold Func.isWrapper; first | (rw [if_pos (by decide +kernel)]; kernel_rfl) | (rw [if_neg (by decide +kernel)]; exact ⟨rfl, rfl⟩))
    (fun os started H enc _ F => lifted_clientOwn os started H enc F)
#print axioms clientOwn_holds
end Go.Proofs.Ythmhbonhagjnnaa
