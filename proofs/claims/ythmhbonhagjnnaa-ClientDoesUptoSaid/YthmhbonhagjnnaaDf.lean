/- Panics and deferred calls. -/
import Derived.Test.YthmhbonhagjnnaaVa
import Derived.Recover
import Derived.WalkSmall
import Derived.WideLaws
namespace Go.Proofs.Ythmhbonhagjnnaa
open Go.RowKit
set_option linter.unusedVariables false
set_option linter.unusedSimpArgs false

def pn (R : Value → World → Prop) (Rp : List PanicEntry → World → Prop) : Ending → World → Prop
  | .returned v, w' => R v w'
  | .panicked c, w' => Rp c w'
  | .outgrown, _ => False
theorem pn_r {R : Value → World → Prop} {Rp : List PanicEntry → World → Prop} {v : Value} {w : World} (h : R v w) : pn R Rp (.returned v) w := h
theorem pn_p {R : Value → World → Prop} {Rp : List PanicEntry → World → Prop} {c : List PanicEntry} {w : World} (h : Rp c w) : pn R Rp (.panicked c) w := h
/-- A call that returns, or panics: R, Rp tell how. -/
def FnP (P : Program) (f : FuncId) (args : Array Value) (w : World) (R : Value → World → Prop) (Rp : List PanicEntry → World → Prop) : Prop :=
  Calls P f args w (pn R Rp)
section walk
variable {P : Program} {N : Nat} {ds : List Deferred} {ops : Array Oper} {C : World → Prop} {Q : Exit → Act → World → Prop} {s : Sl} {w : World} {p : Plan}
theorem LFP {i f : Nat} {d : Option Nat} {args : List Operand} {at_ : Array TypeId} {t : TypeId} {pos : String} {af : Array Edge} {g : Option (Nat × Bool)} {fn : Func} {vs : List Value} {R : Value → World → Prop} {Rp : List PanicEntry → World → Prop}
    (hi : ops[i]? = some ⟨d, .call ⟨.value (.func f), args.toArray, at_⟩, t, pos, af, g⟩) (hg : gok ops s g = true) (hd : (d.all fun d => Nat.blt d N) = true) (hf : Has P f fn)
    (hargs : evs s args = some vs) (hc : FnP P f vs.toArray w R Rp) (h : ∀ v w', R v w' → C w' ∧ L P N ds ops C Q p ((d.map fun d => (d, v)).toList ++ s) w') (hp : ∀ c w', Rp c w' → Fin N ds (.panic c) Q s w') : L P N ds ops C Q (.one i p) s w := fun a ha => by
  simp only [wl, wpOp, hi, gok_wanted ha hg, if_true]
  refine .inl ?_
  unfold Oper.wp
  rw [run_call hf (ρ := a.eval) (ha.ev rfl) (evs_map (fun _ _ hx => ha.ev hx) hargs)]
  rw [Oper.upon_enter]
  rw [show vs.toArray ++ #[] = vs.toArray by simp]
  refine Calls.mono hc fun e w' he => ?_
  cases e with
  | returned v =>
    refine ⟨(h v w' he).1, ?_⟩
    have := (h v w' he).2
    cases d with
    | none => exact this _ ha
    | some d => exact this _ (ha.put (by simpa using hd) v)
  | panicked c => exact hp c w' he a ha
  | outgrown => exact he.elim
/-- The program's own panic. -/
theorem LPn {i : Nat} {x : Operand} {t : TypeId} {pos : String} {af : Array Edge} {g : Option (Nat × Bool)} {T : TypeId} {v : Value} {d : Option Nat} (hi : ops[i]? = some ⟨d, .panic x, t, pos, af, g⟩) (hg : gok ops s g = true)
    (hx : ev s x = some (.iface T v)) (h : Fin N ds (.panic [{ v := .iface T v, recovered := false }]) Q s w) : L P N ds ops C Q (.one i p) s w := fun a ha => by
  simp only [wl, wpOp, hi, gok_wanted ha hg, if_true]
  refine .inl ?_
  unfold Oper.wp
  simp only [execOp, ha.ev hx, Sem.run_bind, run_panic_iface]
  exact h a ha
/-- A call is put off. -/
theorem LD {i : Nat} {x : Operand} {t : TypeId} {pos : String} {af : Array Edge} {g : Option (Nat × Bool)} {f : FuncId} {cap : Array Value} {at_ : Array TypeId} (hi : ops[i]? = some ⟨none, .defer ⟨.value x, #[], at_⟩, t, pos, af, g⟩) (hg : gok ops s g = true)
    (hx : ev s x = some (.func (.func f) #[] cap)) (hC : C w) (h : L P N ({ target := .fn (.func f) cap, args := #[] } :: ds) ops C Q p s w) : L P N ds ops C Q (.one i p) s w := fun a ha => by
  simp only [wl, wpOp, hi, gok_wanted ha hg, if_true]
  refine .inl ?_
  unfold Oper.wp
  simp only [execOp, resolve, ha.ev hx, Deferred.ofValue, Sem.run_bind, Sem.run_pure, Result.andThen_ok]
  refine ⟨hC, h _ ⟨ha.size, ?_, ha.at_⟩⟩
  simp [Act.put, ha.defers]
theorem F_p_then {c : List PanicEntry} {K : Act → World → Prop} (h : Fin N ds (.panic c) Q s w) : Fin N ds (.panic c) (Exit.then K Q) s w := h
theorem F_p_block {c : List PanicEntry} {id : Nat} (h : Fin N ds (.panic c) Q s w) : Fin N ds (.panic c) (Exit.inBlock id Q) s w := h
theorem F_p_end {c : List PanicEntry} {fn : Func} {R : Ending → World → Prop} (h : R (.panicked c) w) : Fin N [] (.panic c) (bodyPost P fn R) s w := fun a ha => ⟨ha.defers, h⟩
theorem FnP.enter {f : FuncId} {fn : Func} {c : Code} {args : List Value} {R : Value → World → Prop} {Rp : List PanicEntry → World → Prop} (N : Nat) (s : Sl) (hf : P.funcs[f]? = some fn) (hb : fn.body = some c) (hN : fn.ntmps = N) (hl : Nat.ble args.length N = true)
    (hs : s = params 0 args) (h : W P N [] c (bodyPost P fn (pn R Rp)) s w) : FnP P f args.toArray w R Rp := by
  subst hs; subst hN
  have hl' := Nat.le_of_ble_eq_true hl
  refine calls_of_wp hf hb (h _ ⟨?_, rfl, fun t v hv => ?_⟩)
  · simp; omega
  · obtain ⟨_, this⟩ := lk_params args 0 t v hv
    rw [Nat.sub_zero] at this
    have hlt : t < args.length := (List.getElem?_eq_some_iff.1 this).1
    have h2 : args[t] = v := (List.getElem?_eq_some_iff.1 this).2
    simp [Array.getD_eq_getD_getElem?, Array.getElem?_append, hlt, h2]
/-- Behind a deferred call, with nothing more put off. -/
theorem F_def {fn : Func} {R : Value → World → Prop} {f : FuncId} {cap : Array Value} {fg : Func} {G : World → Prop} {rs : List ResultVar} {e : Exit} {u : FrameMode} (hu : (e = .ret ∧ u = .returning) ∨ ∃ c, e = .panic c ∧ u = .panicking c) (hf : Has P f fg) (hr : fn.results = rs.toArray)
    (hc : CallsD P f cap u w fun e u' w' => ∃ v, e = .returned v ∧ settle u' = .returning ∧ G w')
    (h : ∀ w', G w' → ∃ vs, Rs P s w' rs vs ∧ R (tupV vs) w') : Fin N [{ target := .fn (.func f) cap, args := #[] }] e (bodyPostD P fn fun e w' => ∃ v, e = .returned v ∧ R v w') s w := fun a ha => by
  have key : Leaves P fn a.tmps (fun e w' => ∃ v, e = .returned v ∧ R v w') [{ target := .fn (.func f) cap, args := #[] }] u w := by
    refine leaves_cons (f := f) (args := cap) (by rcases hu with ⟨_, rfl⟩ | ⟨c, _, rfl⟩ <;> simp) ?_ ?_
    · have h1 := hf.at_
      have h2 := hf.name
      have h3 := hf.body
      have hp : (program).run P w = .ok P w := rfl
      simp only [invoke, callFunc, Sem.run_bind, Sem.run_pure, hp, Result.andThen_ok, h1, h2, h3, Bool.false_eq_true, if_false]
      simp
    · refine CallsD.mono hc fun e u' w' ⟨v, he, hs, hG⟩ => ?_
      subst he
      dsimp only
      rw [hs]
      obtain ⟨vs, h1, h2⟩ := h w' hG
      exact ⟨_, run_results hr h1 ha, _, rfl, h2⟩
  rcases hu with ⟨rfl, rfl⟩ | ⟨c, rfl, rfl⟩
  · show Leaves P fn a.tmps _ a.defers _ w
    rw [ha.defers]; exact key
  · show Leaves P fn a.tmps _ a.defers _ w
    rw [ha.defers]; exact key
theorem FnD.enter {f : FuncId} {fn : Func} {c : Code} {args : List Value} {R : Value → World → Prop} (N : Nat) (s : Sl) (hf : P.funcs[f]? = some fn) (hb : fn.body = some c) (hN : fn.ntmps = N) (hl : Nat.ble args.length N = true)
    (hs : s = params 0 args) (h : W P N [] c (bodyPostD P fn fun e w' => ∃ v, e = .returned v ∧ R v w') s w) : Fn P f args.toArray w R := by
  subst hs; subst hN
  have hl' := Nat.le_of_ble_eq_true hl
  refine calls_of_wp_defers hf hb (h _ ⟨?_, rfl, fun t v hv => ?_⟩)
  · simp; omega
  · obtain ⟨_, this⟩ := lk_params args 0 t v hv
    rw [Nat.sub_zero] at this
    have hlt : t < args.length := (List.getElem?_eq_some_iff.1 this).1
    have h2 : args[t] = v := (List.getElem?_eq_some_iff.1 this).2
    simp [Array.getD_eq_getD_getElem?, Array.getElem?_append, hlt, h2]
/-- Its end where nothing is put off. -/
theorem F_defR {fn : Func} {R : Value → World → Prop} {rs : List ResultVar} {vs : List Value} {v : Value} (hr : fn.results = rs.toArray) (hv : Rs P s w rs vs) (e : v = tupV vs) (h : R v w) : Fin N [] .ret (bodyPostD P fn fun e w' => ∃ v, e = .returned v ∧ R v w') s w := fun a ha => by
  show Leaves P fn a.tmps _ a.defers _ w
  rw [ha.defers]
  exact ⟨_, run_results hr hv ha, _, rfl, by rw [← e]; exact h⟩
end walk
section ex
variable {P : Program} {s : Sl} {t : TypeId} {w : World}
theorem xmi {t' : TypeId} {x : Operand} {v : Value} {d : TypeDesc} (ht : P.underlying t' = some d) (hd : (match d with | .interface _ => false | _ => true) = true) (hx : ev s x = some v) : Ex P s (.makeInterface t' x) t (.iface t' v) := fun w ρ hρ d' pos af g => by
  simp only [execOp, hρ x _ hx, Instr.makeInterface, Sem.run_bind, run_underlying ht, Result.andThen_ok]
  cases d <;> first | rfl | cases hd
theorem xta {a xt : TypeId} {x : Operand} {v : Value} {d : TypeDesc} (ha : P.underlying a = some d) (hd : (match d with | .interface _ => false | _ => true) = true) (hx : ev s x = some (.iface a v)) : Ex P s (.typeAssert x xt a true) t (.tuple #[v, .bool true]) := fun w ρ hρ d' pos af g => by
  simp only [execOp, hρ x _ hx, Instr.typeAssert, Sem.run_bind, run_underlying ha, Result.andThen_ok]
  cases d <;> first | (simp; done) | cases hd
/-- An interface's value is not nil; nil is. -/
theorem xin {t' T : TypeId} {x y : Operand} {v : Value} {yt : TypeId} (ht : P.underlying t' = some (.interface (P.methodsAt t'))) (hx : ev s x = some (.iface T v)) (hy : ev s y = some .nilIface) : Ex P s (.binOp .neq t' x y yt) t (.bool true) := fun w ρ hρ d pos af g => by
  have hg : (eqGuard .neq t' x y (.iface T v) .nilIface).run P w = .ok () w := by simp [eqGuard]
  have he : (binOp .neq t' (.iface T v) .nilIface).run P w = .ok (.bool true) w := by
    have := run_equal_held_nil (P := P) (w := w) t' T v ht
    simp only [binOp, Sem.run_bind, this, Result.andThen_ok, Sem.run_pure]; rfl
  simp only [execOp, hρ x _ hx, hρ y _ hy, Sem.run_bind, hg, he, Result.andThen_ok, Sem.run_pure]
theorem xinn {t' : TypeId} {x : Operand} {yt : TypeId} (ht : P.underlying t' = some (.interface (P.methodsAt t'))) (hx : ev s x = some .nilIface) : Ex P s (.binOp .neq t' x (.const .nilIface) yt) t (.bool false) := fun w ρ hρ d pos af g => by
  have hy := hρ (.const .nilIface) _ rfl
  have hg : (eqGuard .neq t' x (.const .nilIface) .nilIface .nilIface).run P w = .ok () w := by simp [eqGuard]
  have he : (binOp .neq t' .nilIface .nilIface).run P w = .ok (.bool false) w := by
    have := run_equal_nil_nil (P := P) (w := w) t' ht
    simp only [binOp, Sem.run_bind, this, Result.andThen_ok, Sem.run_pure]; rfl
  simp only [execOp, hρ x _ hx, hy, Sem.run_bind, hg, he, Result.andThen_ok, Sem.run_pure]
theorem xmf {f : FuncId} {cap : List Operand} {vs : List Value} (hc : evs s cap = some vs) : Ex P s (.makeFunc (.func f) #[] cap.toArray) t (.func (.func f) #[] vs.toArray) := fun w ρ hρ d pos af g => by
  simp [execOp, Instr.makeFunc, evs_map hρ hc]
end ex
end Go.Proofs.Ythmhbonhagjnnaa
