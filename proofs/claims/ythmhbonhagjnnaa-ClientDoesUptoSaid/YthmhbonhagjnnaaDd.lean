/- A deferred function that recovers. -/
import Derived.Test.YthmhbonhagjnnaaDf
namespace Go.Proofs.Ythmhbonhagjnnaa
open Go.RowKit
set_option linter.unusedVariables false
set_option linter.unusedSimpArgs false
section
variable {P : Program} {w : World}
/-- The recovering region is the first: 't = recover(); x = t'. -/
theorem CallsD.rec {f : FuncId} {fn : Func} {id t3 t2 : Nat} {o1 o2 : Oper} {y : Code} {N : Nat} {args : List Value} {u u' : FrameMode} {v : Value} {R : Ending → FrameMode → World → Prop}
    (hf : P.funcs[f]? = some fn) (hb : fn.body = some (.seq (.region id #[o1, o2] false) y)) (hN : fn.ntmps = N) (hl : Nat.ble args.length N = true)
    (h1 : o1 = ⟨some t3, .call ⟨.builtin .recover, #[], #[]⟩, o1.type, o1.pos, o1.after, none⟩) (h2 : o2 = ⟨some t2, .assign (.tmp t3), o2.type, o2.pos, o2.after, none⟩) (h3 : Nat.blt t3 N = true) (h4 : Nat.blt t2 N = true)
    (hu : (u = .returning ∧ u' = .returning ∧ v = .nilIface) ∨ ∃ older, u = .panicking ({ v, recovered := false } :: older) ∧ u' = .panicking ({ v, recovered := true } :: older))
    (h : W P N [] y (fun e a' w' => ∀ c₀ cs, bodyPostS P fn c₀ cs R e a' ({ c₀ with mode := u' } :: cs) w') ((t2, v) :: (t3, v) :: params 0 args) w) : CallsD P f args.toArray u w R := by
  subst hN
  have hl' := Nat.le_of_ble_eq_true hl
  have hrep : Rep fn.ntmps [] { tmps := args.toArray ++ Array.replicate (fn.ntmps - args.toArray.size) undef, defers := [] } (params 0 args) := by
    refine ⟨by simp; omega, rfl, fun t v hv => ?_⟩
    obtain ⟨_, this⟩ := lk_params args 0 t v hv
    rw [Nat.sub_zero] at this
    have hlt : t < args.length := (List.getElem?_eq_some_iff.1 this).1
    have h2 : args[t] = v := (List.getElem?_eq_some_iff.1 this).2
    simp [Array.getD_eq_getD_getElem?, Array.getElem?_append, hlt, h2]
  refine callsD_of_wpS hf hb fun c₀ cs hc => ?_
  refine wpS_seq (wpS_region ?_)
  have hrec : ∀ a : Act, Rep fn.ntmps [] a ((t2, v) :: (t3, v) :: params 0 args) → Exit.thenS (y.wpS P (bodyPostS P fn c₀ cs R)) (bodyPostS P fn c₀ cs R) .normal a ({ c₀ with mode := u' } :: cs) w := fun a ha => by
    refine wpS_of_wp ?_
    exact wp_mono (h a ha) fun e a' w' hh => hh c₀ cs
  have hx1 : ∀ a : Act, (execOp a.eval o1).run P w = .ok .recover w := fun a => by rw [h1]; simp [execOp, resolve, invoke, builtin]
  have hx2 : ∀ a : Act, a.tmps.getD t3 undef = v → (execOp a.eval o2).run P w = .ok (.value v) w := fun a ha => by rw [h2]; simp [execOp, Act.eval, ha]
  have hw1 : ∀ yl, Region.wanted o1 yl = true := fun yl => by rw [h1]; rfl
  have hw2 : ∀ yl, Region.wanted o2 yl = true := fun yl => by rw [h2]; rfl
  have hd1 : o1.dst = some t3 := by rw [h1]
  have hd2 : o2.dst = some t2 := by rw [h2]
  have hR := (hrep.put h3 v).put h4 v
  have hcs : (match recoverD (c₀ :: cs) with | some (x, cs') => x = v ∧ cs' = { c₀ with mode := u' } :: cs | none => v = .nilIface ∧ c₀ :: cs = { c₀ with mode := u' } :: cs) := by
    rcases hu with ⟨rfl, rfl, rfl⟩ | ⟨older, rfl, rfl⟩
    · simp only [recoverD, hc]; exact ⟨trivial, by rw [← hc]⟩
    · simp only [recoverD, hc]; exact ⟨trivial, trivial⟩
  show wpOpsS P #[o1, o2] _ [0, 1] _ _ w
  simp only [wpOpsS, List.getElem?_toArray, List.getElem?_cons_zero, List.getElem?_cons_succ, hw1, if_true, hx1]
  have ht3 := (hrep.put h3 v).at_ t3 v (by simp [lk])
  cases hr : recoverD (c₀ :: cs) with
  | none =>
    rw [hr] at hcs
    obtain ⟨rfl, e⟩ := hcs
    simp only [hd1, wpOpsS, List.getElem?_toArray, List.getElem?_cons_zero, List.getElem?_cons_succ, hw2, if_true]
    rw [hx2 _ ht3]
    simp only [Oper.upon, hd2]
    rw [e]; exact hrec _ hR
  | some p =>
    obtain ⟨x, cs'⟩ := p
    rw [hr] at hcs
    obtain ⟨rfl, rfl⟩ := hcs
    simp only [hd1, wpOpsS, List.getElem?_toArray, List.getElem?_cons_zero, List.getElem?_cons_succ, hw2, if_true]
    rw [hx2 _ ht3]
    simp only [Oper.upon, hd2]
    exact hrec _ hR
theorem F_S {fn : Func} {N : Nat} {s : Sl} {u' : FrameMode} {R : Ending → FrameMode → World → Prop} (hr : fn.results = #[]) (h : R (.returned (.tuple #[])) u' w) :
    Fin N [] .normal (fun e a' w' => ∀ c₀ cs, bodyPostS P fn c₀ cs R e a' ({ c₀ with mode := u' } :: cs) w') s w := fun a ha c₀ cs => ⟨ha.defers, u', rfl, _, results_none hr _ _ _, h⟩
end
end Go.Proofs.Ythmhbonhagjnnaa
