/- Operations: what each makes of known slots. -/
import Derived.Test.YthmhbonhagjnnaaCore
namespace Go.Proofs.Ythmhbonhagjnnaa
open Go.RowKit
set_option linter.unusedVariables false
set_option linter.unusedSimpArgs false

/-- The operation yields v in world w and leaves the world alone. -/
def ExW (P : Program) (s : Sl) (op : Op) (t : TypeId) (v : Value) (w : World) : Prop :=
  ∀ ρ : Operand → Value, (∀ x u, ev s x = some u → ρ x = u) → ∀ d pos af g, (execOp ρ ⟨d, op, t, pos, af, g⟩).run P w = .ok (.value v) w
def Ex (P : Program) (s : Sl) (op : Op) (t : TypeId) (v : Value) : Prop := ∀ w, ExW P s op t v w

section walk
variable {P : Program} {N : Nat} {ds : List Deferred} {ops : Array Oper} {C : World → Prop} {Q : Exit → Act → World → Prop} {s : Sl} {w : World} {p q : Plan}

theorem gok_wanted {a : Act} (ha : Rep N ds a s) {d : Option Tmp} {op : Op} {t : TypeId} {pos : String} {af : Array Edge} {g : Option (Nat × Bool)} (hg : gok ops s g = true) :
    Region.wanted ⟨d, op, t, pos, af, g⟩ (yielded ops a.tmps) = true := by
  unfold Region.wanted
  cases g with
  | none => rfl
  | some p =>
    obtain ⟨j, want⟩ := p
    simp only [gok] at hg
    cases hj : (ops[j]?).bind (·.dst) with
    | none => rw [hj] at hg; cases hg
    | some t =>
      rw [hj] at hg
      simp only at hg
      cases hl : lk s t with
      | none => rw [hl] at hg; cases hg
      | some v =>
        rw [hl] at hg
        cases v with
        | bool b =>
          have hb := ha.at_ t _ hl
          have hy : yielded ops a.tmps j = some b := by
            have : a.tmps[t]? = some (.bool b) := by
              simp only [Array.getD_eq_getD_getElem?] at hb
              cases h : a.tmps[t]? with
              | none => rw [h] at hb; simp [undef] at hb
              | some u => rw [h] at hb; simp at hb; rw [hb]
            simp [yielded, hj, this]
          simp only [hy]
          simpa using hg
        | _ => cases hg

theorem gno_wanted {a : Act} (ha : Rep N ds a s) {d : Option Tmp} {op : Op} {t : TypeId} {pos : String} {af : Array Edge} {g : Option (Nat × Bool)} (hg : gno ops s g = true) :
    Region.wanted ⟨d, op, t, pos, af, g⟩ (yielded ops a.tmps) = false := by
  unfold Region.wanted
  cases g with
  | none => cases hg
  | some p =>
    obtain ⟨j, want⟩ := p
    simp only [gno] at hg
    cases hj : (ops[j]?).bind (·.dst) with
    | none => rw [hj] at hg; cases hg
    | some t =>
      rw [hj] at hg
      simp only at hg
      cases hl : lk s t with
      | none => rw [hl] at hg; cases hg
      | some v =>
        rw [hl] at hg
        have hb := ha.at_ t _ hl
        have hy : ∀ x, yielded ops a.tmps j = x → x ≠ some want → (yielded ops a.tmps j == some want) = false := fun x hx hne => by rw [hx]; simpa using hne
        cases v with
        | bool b =>
          refine hy (some b) ?_ (by simp at hg ⊢; intro h; exact hg h)
          have : a.tmps[t]? = some (.bool b) := by
            simp only [Array.getD_eq_getD_getElem?] at hb
            cases h : a.tmps[t]? with
            | none => rw [h] at hb; simp [undef] at hb
            | some u => rw [h] at hb; simp at hb; rw [hb]
          simp [yielded, hj, this]
        | tuple vs =>
          refine hy none ?_ (by simp)
          simp only [yielded, hj, Option.bind_some]
          simp only [Array.getD_eq_getD_getElem?] at hb
          cases h : a.tmps[t]? with
          | none => rfl
          | some u => rw [h] at hb; simp at hb; rw [hb]
        | _ => cases hg

/-- It only computes. -/
theorem LP {i d : Nat} {op : Op} {t : TypeId} {pos : String} {af : Array Edge} {g : Option (Nat × Bool)} {v : Value} (hi : ops[i]? = some ⟨some d, op, t, pos, af, g⟩) (hg : gok ops s g = true)
    (hd : Nat.blt d N = true) (hv : Ex P s op t v) (h : L P N ds ops C Q p ((d, v) :: s) w) : L P N ds ops C Q (.pure i p) s w := fun a ha =>
  ⟨_, v, hi, .inl ⟨gok_wanted ha hg, fun w' _ => hv w' a.eval (fun _ _ hx => ha.ev hx) _ _ _ _⟩, h _ (ha.put hd v)⟩
/-- Its guard says no. -/
theorem LN {i d : Nat} {op : Op} {t : TypeId} {pos : String} {af : Array Edge} {g : Option (Nat × Bool)} (hi : ops[i]? = some ⟨some d, op, t, pos, af, g⟩) (hg : gno ops s g = true)
    (hd : Nat.blt d N = true) (h : L P N ds ops C Q p ((d, undef) :: s) w) : L P N ds ops C Q (.pure i p) s w := fun a ha =>
  ⟨_, undef, hi, .inr ⟨gno_wanted ha hg, rfl⟩, h _ (ha.put hd undef)⟩
theorem LNs {i d : Nat} {op : Op} {t : TypeId} {pos : String} {af : Array Edge} {g : Option (Nat × Bool)} (hi : ops[i]? = some ⟨some d, op, t, pos, af, g⟩) (hg : gno ops s g = true)
    (hd : Nat.blt d N = true) (h : L P N ds ops C Q p ((d, undef) :: s) w) : L P N ds ops C Q (.still i p) s w := fun a ha =>
  ⟨_, undef, hi, .inr ⟨gno_wanted ha hg, rfl⟩, h _ (ha.put hd undef)⟩
/-- It reads. -/
theorem LS {i d : Nat} {op : Op} {t : TypeId} {pos : String} {af : Array Edge} {g : Option (Nat × Bool)} {v : Value} (hi : ops[i]? = some ⟨some d, op, t, pos, af, g⟩) (hg : gok ops s g = true)
    (hd : Nat.blt d N = true) (hv : ∀ w', C w' → ExW P s op t v w') (h : L P N ds ops C Q p ((d, v) :: s) w) : L P N ds ops C Q (.still i p) s w := fun a ha =>
  ⟨_, v, hi, .inl ⟨gok_wanted ha hg, fun w' hw' => hv w' hw' a.eval (fun _ _ hx => ha.ev hx) _ _ _ _⟩, h _ (ha.put hd v)⟩
/-- Alone, and it leaves the world alone. -/
theorem LX {i d : Nat} {op : Op} {t : TypeId} {pos : String} {af : Array Edge} {g : Option (Nat × Bool)} {v : Value} (hi : ops[i]? = some ⟨some d, op, t, pos, af, g⟩) (hg : gok ops s g = true)
    (hd : Nat.blt d N = true) (hv : ExW P s op t v w) (hC : C w) (h : L P N ds ops C Q p ((d, v) :: s) w) : L P N ds ops C Q (.one i p) s w := fun a ha => by
  simp only [wl, wpOp, hi, gok_wanted ha hg, if_true]
  refine .inl ?_
  unfold Oper.wp
  rw [hv a.eval (fun _ _ hx => ha.ev hx)]
  exact ⟨hC, h _ (ha.put hd v)⟩
theorem LNo {i : Nat} {d : Option Nat} {op : Op} {t : TypeId} {pos : String} {af : Array Edge} {g : Option (Nat × Bool)} (hi : ops[i]? = some ⟨d, op, t, pos, af, g⟩) (hg : gno ops s g = true)
    (hd : (d.all fun d => Nat.blt d N) = true) (hC : C w) (h : L P N ds ops C Q p ((d.map fun d => (d, undef)).toList ++ s) w) : L P N ds ops C Q (.one i p) s w := fun a ha => by
  simp only [wl, wpOp, hi, gno_wanted ha hg, Bool.false_eq_true, if_false]
  refine ⟨hC, ?_⟩
  cases d with
  | none => exact h _ (ha.put_none _)
  | some d => exact h _ (ha.put (by simpa using hd) undef)
theorem LZ (h : Fin N ds .normal Q s w) : L P N ds ops C Q .nil s w := h

/-- It turns the world: R tells how. -/
def ExT (P : Program) (s : Sl) (op : Op) (t : TypeId) (w : World) (R : Value → World → Prop) : Prop :=
  ∀ ρ : Operand → Value, (∀ x u, ev s x = some u → ρ x = u) → ∀ d pos af g, ∃ v w', (execOp ρ ⟨d, op, t, pos, af, g⟩).run P w = .ok (.value v) w' ∧ R v w'
theorem LT {i d : Nat} {op : Op} {t : TypeId} {pos : String} {af : Array Edge} {g : Option (Nat × Bool)} {R : Value → World → Prop} (hi : ops[i]? = some ⟨some d, op, t, pos, af, g⟩) (hg : gok ops s g = true)
    (hd : Nat.blt d N = true) (hv : ExT P s op t w R) (h : ∀ v w', R v w' → C w' ∧ L P N ds ops C Q p ((d, v) :: s) w') : L P N ds ops C Q (.one i p) s w := fun a ha => by
  simp only [wl, wpOp, hi, gok_wanted ha hg, if_true]
  refine .inl ?_
  unfold Oper.wp
  obtain ⟨v, w', he, hR⟩ := hv a.eval (fun _ _ hx => ha.ev hx) (some d) pos af g
  rw [he]
  exact ⟨(h v w' hR).1, (h v w' hR).2 _ (ha.put hd v)⟩
theorem LTt {i d : Nat} {op : Op} {t : TypeId} {pos : String} {af : Array Edge} {g : Option (Nat × Bool)} {R : Value → World → Prop} (hi : ops[i]? = some ⟨some d, op, t, pos, af, g⟩) (hg : gok ops s g = true)
    (hd : Nat.blt d N = true) (hv : ExT P s op t w R) (h : ∀ v w', R v w' → L P N ds ops C Q p ((d, v) :: s) w') : L P N ds ops C Q (.tail i p) s w := fun a ha => by
  simp only [wl, wpOp, hi, gok_wanted ha hg, if_true]
  refine .inl ?_
  unfold Oper.wp
  obtain ⟨v, w', he, hR⟩ := hv a.eval (fun _ _ hx => ha.ev hx) (some d) pos af g
  rw [he]
  exact h v w' hR _ (ha.put hd v)
/-- A store, a map's update: no slot. -/
def ExU (P : Program) (s : Sl) (op : Op) (t : TypeId) (w : World) (R : World → Prop) : Prop :=
  ∀ ρ : Operand → Value, (∀ x u, ev s x = some u → ρ x = u) → ∀ d pos af g, ∃ w', (execOp ρ ⟨d, op, t, pos, af, g⟩).run P w = .ok .skip w' ∧ R w'
theorem LU {i : Nat} {op : Op} {t : TypeId} {pos : String} {af : Array Edge} {g : Option (Nat × Bool)} {R : World → Prop} (hi : ops[i]? = some ⟨none, op, t, pos, af, g⟩) (hg : gok ops s g = true)
    (hv : ExU P s op t w R) (h : ∀ w', R w' → C w' ∧ L P N ds ops C Q p s w') : L P N ds ops C Q (.one i p) s w := fun a ha => by
  simp only [wl, wpOp, hi, gok_wanted ha hg, if_true]
  refine .inl ?_
  unfold Oper.wp
  obtain ⟨w', he, hR⟩ := hv a.eval (fun _ _ hx => ha.ev hx) none pos af g
  rw [he]
  exact ⟨(h w' hR).1, (h w' hR).2 _ ha⟩
theorem LUt {i : Nat} {op : Op} {t : TypeId} {pos : String} {af : Array Edge} {g : Option (Nat × Bool)} {R : World → Prop} (hi : ops[i]? = some ⟨none, op, t, pos, af, g⟩) (hg : gok ops s g = true)
    (hv : ExU P s op t w R) (h : ∀ w', R w' → L P N ds ops C Q p s w') : L P N ds ops C Q (.tail i p) s w := fun a ha => by
  simp only [wl, wpOp, hi, gok_wanted ha hg, if_true]
  refine .inl ?_
  unfold Oper.wp
  obtain ⟨w', he, hR⟩ := hv a.eval (fun _ _ hx => ha.ev hx) none pos af g
  rw [he]
  exact h w' hR _ ha

/-- A call of a Go function: it returns. -/
def Fn (P : Program) (f : FuncId) (args : Array Value) (w : World) (R : Value → World → Prop) : Prop := Calls P f args w fun e w' => ∃ v, e = .returned v ∧ R v w'
def evs (s : Sl) : List Operand → Option (List Value)
  | [] => some []
  | x :: l => match ev s x with
    | some v => match evs s l with
      | some vs => some (v :: vs)
      | none => none
    | none => none
theorem evs_map {s : Sl} {ρ : Operand → Value} (hρ : ∀ x u, ev s x = some u → ρ x = u) : ∀ {l : List Operand} {vs : List Value}, evs s l = some vs → l.map ρ = vs
  | [], _, h => by cases h; rfl
  | x :: l, vs, h => by
    unfold evs at h
    cases hx : ev s x with
    | none => rw [hx] at h; cases h
    | some v =>
      rw [hx] at h
      cases hl : evs s l with
      | none => rw [hl] at h; cases h
      | some us =>
        rw [hl] at h
        cases h
        rw [List.map_cons, hρ x v hx, evs_map hρ hl]
theorem evs_nil : evs s [] = some [] := rfl
theorem evs_cons {x : Operand} {l : List Operand} {v : Value} {vs : List Value} (hx : ev s x = some v) (hl : evs s l = some vs) : evs s (x :: l) = some (v :: vs) := by
  unfold evs; rw [hx, hl]

/-- A function of the program that has a body. -/
structure Has (P : Program) (f : FuncId) (fn : Func) : Prop where
  at_ : P.funcs[f]? = some fn
  name : (fn.name == "runtime.NumGoroutine") = false
  body : fn.body.isNone = false

theorem run_call {f : FuncId} {fn : Func} (hf : Has P f fn) {ρ : Operand → Value} {fo : Operand} {cap : Array Value} (hfo : ρ fo = .func (.func f) #[] cap) {args : List Operand} {vs : List Value} (hargs : args.map ρ = vs)
    {at_ : Array TypeId} {d : Option Tmp} {t : TypeId} {pos : String} {af : Array Edge} {g : Option (Nat × Bool)} :
    (execOp ρ ⟨d, .call ⟨.value fo, args.toArray, at_⟩, t, pos, af, g⟩).run P w = .ok (.enter f (vs.toArray ++ cap)) w := by
  have h1 := hf.at_
  have h2 := hf.name
  have h3 := hf.body
  simp only [execOp, resolve, Deferred.ofValue, invoke, callFunc, Sem.run_bind, Sem.run_pure, Result.andThen_ok, List.map_toArray, hargs, hfo]
  have hp : (program).run P w = .ok P w := rfl
  simp only [hp, Result.andThen_ok, h1, h2, h3, Bool.false_eq_true, if_false, Sem.run_pure]
  simp

theorem LC {i d : Nat} {fo : Operand} {args : List Operand} {at_ : Array TypeId} {t : TypeId} {pos : String} {af : Array Edge} {g : Option (Nat × Bool)} {f : FuncId} {fn : Func} {vs : List Value} {cap : Array Value} {R : Value → World → Prop}
    (hi : ops[i]? = some ⟨some d, .call ⟨.value fo, args.toArray, at_⟩, t, pos, af, g⟩) (hg : gok ops s g = true) (hd : Nat.blt d N = true) (hf : Has P f fn)
    (hfo : ev s fo = some (.func (.func f) #[] cap)) (hargs : evs s args = some vs) (hc : Fn P f (vs.toArray ++ cap) w R) (h : ∀ v w', R v w' → C w' ∧ L P N ds ops C Q p ((d, v) :: s) w') : L P N ds ops C Q (.one i p) s w := fun a ha => by
  simp only [wl, wpOp, hi, gok_wanted ha hg, if_true]
  refine .inl ?_
  unfold Oper.wp
  rw [run_call hf (ρ := a.eval) (ha.ev hfo) (evs_map (fun _ _ hx => ha.ev hx) hargs)]
  refine Calls.mono hc fun e w' he => ?_
  obtain ⟨v, rfl, hR⟩ := he
  exact ⟨(h v w' hR).1, (h v w' hR).2 _ (ha.put hd v)⟩
/-- The same where the call writes no slot. -/
theorem LC0 {i : Nat} {fo : Operand} {args : List Operand} {at_ : Array TypeId} {t : TypeId} {pos : String} {af : Array Edge} {g : Option (Nat × Bool)} {f : FuncId} {fn : Func} {vs : List Value} {cap : Array Value} {R : Value → World → Prop}
    (hi : ops[i]? = some ⟨none, .call ⟨.value fo, args.toArray, at_⟩, t, pos, af, g⟩) (hg : gok ops s g = true) (hf : Has P f fn)
    (hfo : ev s fo = some (.func (.func f) #[] cap)) (hargs : evs s args = some vs) (hc : Fn P f (vs.toArray ++ cap) w R) (h : ∀ v w', R v w' → C w' ∧ L P N ds ops C Q p s w') : L P N ds ops C Q (.one i p) s w := fun a ha => by
  simp only [wl, wpOp, hi, gok_wanted ha hg, if_true]
  refine .inl ?_
  unfold Oper.wp
  rw [run_call hf (ρ := a.eval) (ha.ev hfo) (evs_map (fun _ _ hx => ha.ev hx) hargs)]
  refine Calls.mono hc fun e w' he => ?_
  obtain ⟨v, rfl, hR⟩ := he
  exact ⟨(h v w' hR).1, (h v w' hR).2 _ ha⟩
/-- A call of a function by its name. -/
theorem LF {i d f : Nat} {args : List Operand} {at_ : Array TypeId} {t : TypeId} {pos : String} {af : Array Edge} {g : Option (Nat × Bool)} {fn : Func} {vs : List Value} {R : Value → World → Prop}
    (hi : ops[i]? = some ⟨some d, .call ⟨.value (.func f), args.toArray, at_⟩, t, pos, af, g⟩) (hg : gok ops s g = true) (hd : Nat.blt d N = true) (hf : Has P f fn)
    (hargs : evs s args = some vs) (hc : Fn P f vs.toArray w R) (h : ∀ v w', R v w' → C w' ∧ L P N ds ops C Q p ((d, v) :: s) w') : L P N ds ops C Q (.one i p) s w :=
  LC hi hg hd hf rfl hargs (by simpa using hc) h
end walk

/-! ### Splits and cuts -/
/-- What stood stands. -/
structure Le (w w' : World) : Prop where
  bel : Below w.heap.size w w'
  dr : w.drawn ≤ w'.drawn

section cuts
variable {P : Program} {N : Nat} {ds : List Deferred} {ops : Array Oper} {C : World → Prop} {Q : Exit → Act → World → Prop} {s : Sl} {w : World} {p : Plan}
theorem Rep.over' {a : Act} (h : Rep N ds a s) {t : Nat} {v : Value} (ht : a.tmps.getD t undef = v) : Rep N ds a ((t, v) :: s) :=
  ⟨h.size, h.defers, fun u x hu => by
    simp only [lk] at hu
    cases hb : Nat.beq u t with
    | true => rw [hb] at hu; have e := Nat.eq_of_beq_eq_true hb; subst e; simp at hu; subst hu; exact ht
    | false => rw [hb] at hu; exact h.at_ _ _ hu⟩
theorem Rep.over {a : Act} (h : Rep N ds a s) {t : Nat} {v : Value} (ht : lk s t = some v) : Rep N ds a ((t, v) :: s) :=
  ⟨h.size, h.defers, fun u x hu => by
    simp only [lk] at hu
    cases hb : Nat.beq u t with
    | true => rw [hb] at hu; have e := Nat.eq_of_beq_eq_true hb; subst e; simp at hu; subst hu; exact h.at_ _ _ ht
    | false => rw [hb] at hu; exact h.at_ _ _ hu⟩
theorem L_split {t : Nat} {b : Bool} (ht : lk s t = some (.bool b)) (h1 : b = true → L P N ds ops C Q p ((t, .bool true) :: s) w) (h0 : b = false → L P N ds ops C Q p ((t, .bool false) :: s) w) : L P N ds ops C Q p s w := fun a ha => by
  cases b with
  | true => exact h1 rfl a (ha.over ht)
  | false => exact h0 rfl a (ha.over ht)
theorem W_split {c : Code} {t : Nat} {b : Bool} (ht : lk s t = some (.bool b)) (h1 : b = true → W P N ds c Q ((t, .bool true) :: s) w) (h0 : b = false → W P N ds c Q ((t, .bool false) :: s) w) : W P N ds c Q s w := fun a ha => by
  cases b with
  | true => exact h1 rfl a (ha.over ht)
  | false => exact h0 rfl a (ha.over ht)
theorem L_two {i j : Nat} {q : Plan} (h1 : L P N ds ops C Q (.one i p) s w) (h2 : L P N ds ops C Q (.one j q) s w) : L P N ds ops C Q (.two i j p q) s w := fun a ha => ⟨h1 a ha, h2 a ha⟩
/-- What is known to be another value's name. -/
theorem W_is {c : Code} (t : Nat) {u v : Value} (ht : lk s t = some u) (e : u = v) (h : W P N ds c Q ((t, v) :: s) w) : W P N ds c Q s w := fun a ha => h a (ha.over (by rw [ht, e]))
theorem L_is (t : Nat) {u v : Value} (ht : lk s t = some u) (e : u = v) (h : L P N ds ops C Q p ((t, v) :: s) w) : L P N ds ops C Q p s w := fun a ha => h a (ha.over (by rw [ht, e]))
def fresh (es s : Sl) : Bool := es.all fun e => (lk s e.1).isNone
theorem lk_fresh {s0 : Sl} : ∀ (n : Nat) (s : Sl), s.drop n = s0 → fresh (s.take n) s0 = true → ∀ t v, lk s0 t = some v → lk s t = some v
  | 0, s, hd, _, t, v, h => by simp at hd; subst hd; exact h
  | n + 1, [], hd, _, t, v, h => by simp at hd; subst hd; cases h
  | n + 1, e :: s, hd, hf, t, v, h => by
    simp only [List.take_succ_cons, fresh, List.all_cons, Bool.and_eq_true] at hf
    have ih := lk_fresh n s (by simpa using hd) hf.2 t v h
    simp only [lk]
    cases hb : Nat.beq t e.1 with
    | true =>
      have e' := Nat.eq_of_beq_eq_true hb
      rw [e'] at h
      rw [h] at hf
      simp at hf
    | false => simpa using ih
theorem W_cutb {x y : Code} (t : Nat) (B : Bool) (h1 : W P N ds x (Exit.then (fun a' w' => Le w w' ∧ Rep N ds a' ((t, .bool B) :: s)) Q) s w) (h2 : ∀ w', Le w w' → W P N ds y Q ((t, .bool B) :: s) w') : W P N ds (.seq x y) Q s w :=
  W_seq fun a ha => wp_mono (h1 a ha) fun e a' w' h => by
    cases e <;> first | exact h | exact h2 w' h.1 a' h.2
theorem lk_cut {s0 : Sl} {c : Nat} : ∀ (n : Nat) (s : Sl), s.drop n = s0 → ((s.take n).all fun e => Nat.beq e.1 c || (lk s0 e.1).isNone) = true → ∀ t v, t ≠ c → lk s0 t = some v → lk s t = some v
  | 0, s, hd, _, t, v, _, h => by simp at hd; subst hd; exact h
  | n + 1, [], hd, _, t, v, _, h => by simp at hd; subst hd; cases h
  | n + 1, e :: s, hd, hf, t, v, hc, h => by
    simp only [List.take_succ_cons, List.all_cons, Bool.and_eq_true, Bool.or_eq_true] at hf
    have ih := lk_cut n s (by simpa using hd) hf.2 t v hc h
    simp only [lk]
    cases hb : Nat.beq t e.1 with
    | true =>
      have e' := Nat.eq_of_beq_eq_true hb
      rcases hf.1 with h1 | h1
      · exact absurd (e'.trans (Nat.eq_of_beq_eq_true h1)) hc
      · rw [e'] at h
        rw [h] at h1
        simp at h1
    | false => simpa using ih
theorem F_cutb {t : Nat} {b B : Bool} {s0 : Sl} {w0 : World} (n : Nat) (hB : b = B) (ht : lk s t = some (.bool b)) (hd : s.drop n = s0) (hf : ((s.take n).all fun e => Nat.beq e.1 t || (lk s0 e.1).isNone) = true) (hle : Le w0 w) :
    Fin N ds .normal (Exit.then (fun a' w' => Le w0 w' ∧ Rep N ds a' ((t, .bool B) :: s0)) Q) s w := fun a ha => by
  subst hB
  refine ⟨hle, ha.less fun u v hu => ?_⟩
  simp only [lk] at hu
  cases hb : Nat.beq u t with
  | true => rw [hb] at hu; have e := Nat.eq_of_beq_eq_true hb; subst e; simp at hu; subst hu; exact ht
  | false =>
    rw [hb] at hu
    exact lk_cut n s hd hf u v (fun e => by subst e; simp at hb) hu

theorem hvn : ∀ t v, lk [] t = some v → lk s t = some v := fun t v h => by cases h
theorem hvc {d : Nat} {u : Value} {vs : Sl} (h : lk s d = some u) (r : ∀ t v, lk vs t = some v → lk s t = some v) : ∀ t v, lk ((d, u) :: vs) t = some v → lk s t = some v := fun t v ht => by
  simp only [lk] at ht
  cases hb : Nat.beq t d with
  | true => rw [hb] at ht; have e := Nat.eq_of_beq_eq_true hb; subst e; simp at ht; subst ht; exact h
  | false => rw [hb] at ht; exact r t v ht
theorem lk_append : ∀ (vs s : Sl) (t : Nat), lk (vs ++ s) t = match lk vs t with | some v => some v | none => lk s t
  | [], s, t => rfl
  | e :: vs, s, t => by
    simp only [List.cons_append, lk, lk_append vs s t]
    cases hb : Nat.beq t e.1 <;> rfl
theorem lk_isNone_of (es s : Sl) (f : Nat × Value → Bool) (hf : es.all f = true) (t : Nat) (h : ∀ e : Nat × Value, f e = true → e.1 = t → False) : lk es t = none := by
  induction es with
  | nil => rfl
  | cons e es ih =>
    simp only [List.all_cons, Bool.and_eq_true] at hf
    simp only [lk]
    cases hb : Nat.beq t e.1 with
    | true => exact (h e hf.1 (Nat.eq_of_beq_eq_true hb).symm).elim
    | false => exact ih hf.2
/-- Behind a round: the loop's own slots hold what they hold, all others what they held. -/
theorem lk_loop {vs vs0 s0 : Sl} (n : Nat) (hd : s.drop n = vs0 ++ s0) (hf : (s.take n ++ vs0).all (fun e => (lk vs e.1).isSome || (lk s0 e.1).isNone) = true)
    (hv : ∀ t v, lk vs t = some v → lk s t = some v) : ∀ t v, lk (vs ++ s0) t = some v → lk s t = some v := fun t v h => by
  rw [lk_append] at h
  cases hl : lk vs t with
  | some u => rw [hl] at h; simp at h; subst h; exact hv t u hl
  | none =>
    rw [hl] at h
    simp only at h
    have hs : s = (s.take n ++ vs0) ++ s0 := by rw [List.append_assoc, ← hd, List.take_append_drop]
    rw [hs, lk_append, lk_isNone_of _ s0 _ hf t fun e he ht => ?_]
    · exact h
    · rw [ht, hl, h] at he; simp at he
theorem W_loopv {ι : Type} {c : Code} (vs : ι → Sl) (M : ι → World → Prop) (μ : ι → Nat) (i₀ : ι) (hS : ∀ t v, lk (vs i₀) t = some v → lk s t = some v) (h₀ : M i₀ w)
    (round : ∀ i w, M i w → W P N ds c (Exit.then (fun a' w' => ∃ i', M i' w' ∧ Rep N ds a' (vs i' ++ s) ∧ μ i' < μ i) Q) (vs i ++ s) w) : W P N ds (.loop c) Q s w :=
  W_loop (fun i => vs i ++ s) M μ i₀ (fun t v h => by
    rw [lk_append] at h
    cases hl : lk (vs i₀) t with
    | some u => rw [hl] at h; simp at h; subst h; exact hS t u hl
    | none => rw [hl] at h; exact h) h₀ round
/-- A cut: what holds behind the first part is packed by ι. -/
theorem W_cutx {ι : Type} {x y : Code} (vs : ι → Sl) (M : ι → World → Prop) (h1 : W P N ds x (Exit.then (fun a' w' => ∃ i, M i w' ∧ Rep N ds a' (vs i ++ s)) Q) s w) (h2 : ∀ i w', M i w' → W P N ds y Q (vs i ++ s) w') : W P N ds (.seq x y) Q s w :=
  W_seq fun a ha => wp_mono (h1 a ha) fun e a' w' h => by
    cases e <;> first | exact h | (obtain ⟨i, hM, hR⟩ := h; exact h2 i w' hM a' hR)
theorem F_cutx {ι : Type} {vs : ι → Sl} {s0 : Sl} {M : ι → World → Prop} (i' : ι) (hM : M i' w) (hS : ∀ t v, lk (vs i' ++ s0) t = some v → lk s t = some v) :
    Fin N ds .normal (Exit.then (fun a' w' => ∃ i', M i' w' ∧ Rep N ds a' (vs i' ++ s0)) Q) s w := fun _ ha => ⟨i', hM, ha.less hS⟩
theorem F_roundv {ι : Type} {vs : ι → Sl} {s0 : Sl} {M : ι → World → Prop} {μ : ι → Nat} {m : Nat} (i' : ι) (hM : M i' w) (hμ : μ i' < m) (hS : ∀ t v, lk (vs i' ++ s0) t = some v → lk s t = some v) :
    Fin N ds .normal (Exit.then (fun a' w' => ∃ i', M i' w' ∧ Rep N ds a' (vs i' ++ s0) ∧ μ i' < m) Q) s w := fun _ ha => ⟨i', hM, ha.less hS, hμ⟩
end cuts

/-! ### Entering a function -/
def params : Nat → List Value → Sl
  | _, [] => []
  | k, v :: vs => (k, v) :: params (k + 1) vs
theorem lk_params : ∀ (vs : List Value) (k t : Nat) (v : Value), lk (params k vs) t = some v → k ≤ t ∧ vs[t - k]? = some v
  | [], k, t, v, h => by cases h
  | u :: vs, k, t, v, h => by
    simp only [params, lk] at h
    cases hb : Nat.beq t k with
    | true =>
      rw [hb] at h
      have e := Nat.eq_of_beq_eq_true hb
      subst e
      simp at h
      simp [h]
    | false =>
      rw [hb] at h
      obtain ⟨h1, h2⟩ := lk_params vs (k + 1) t v h
      refine ⟨by omega, ?_⟩
      rw [show t - k = (t - (k + 1)) + 1 by omega]
      simpa using h2
theorem Fn.enter {P : Program} {f : FuncId} {fn : Func} {c : Code} {args : List Value} {w : World} {R : Value → World → Prop} (N : Nat) (s : Sl) (hf : P.funcs[f]? = some fn) (hb : fn.body = some c) (hN : fn.ntmps = N) (hl : Nat.ble args.length N = true)
    (hs : s = params 0 args) (h : W P N [] c (bodyPost P fn fun e w' => ∃ v, e = .returned v ∧ R v w') s w) : Fn P f args.toArray w R := by
  subst hs; subst hN
  have hl' := Nat.le_of_ble_eq_true hl
  refine calls_of_wp hf hb (h _ ⟨?_, rfl, fun t v hv => ?_⟩)
  · simp; omega
  · obtain ⟨_, this⟩ := lk_params args 0 t v hv
    rw [Nat.sub_zero] at this
    have hlt : t < args.length := (List.getElem?_eq_some_iff.1 this).1
    have h2 : args[t] = v := (List.getElem?_eq_some_iff.1 this).2
    simp [Array.getD_eq_getD_getElem?, Array.getElem?_append, hlt, h2]
theorem Fn.mono {P : Program} {f : FuncId} {args : Array Value} {w : World} {R R' : Value → World → Prop} (h : Fn P f args w R) (hR : ∀ v w', R v w' → R' v w') : Fn P f args w R' :=
  Calls.mono h fun _ _ ⟨v, he, hr⟩ => ⟨v, he, hR _ _ hr⟩

/-! ### What operations yield -/
section ex
variable {P : Program} {s : Sl} {t : TypeId}

theorem xmv {x : Operand} {v : Value} (hx : ev s x = some v) : Ex P s (.move x) t v := fun w ρ hρ d pos af g => by simp [execOp, hρ x v hx]
theorem xas {x : Operand} {v : Value} (hx : ev s x = some v) : Ex P s (.assign x) t v := fun w ρ hρ d pos af g => by simp [execOp, hρ x v hx]
theorem xpk1 {c a b : Operand} {v : Value} (hc : ev s c = some (.bool true)) (ha : ev s a = some v) : Ex P s (.pick c a b) t v := fun w ρ hρ d pos af g => by simp [execOp, hρ c _ hc, hρ a v ha, asBool]
theorem xpk0 {c a b : Operand} {v : Value} (hc : ev s c = some (.bool false)) (hb : ev s b = some v) : Ex P s (.pick c a b) t v := fun w ρ hρ d pos af g => by simp [execOp, hρ c _ hc, hρ b v hb, asBool]
theorem xpk {c a b : Operand} {x y z : Bool} (hc : ev s c = some (.bool x)) (ha : ev s a = some (.bool y)) (hb : ev s b = some (.bool z)) : Ex P s (.pick c a b) t (.bool (bif x then y else z)) := fun w ρ hρ d pos af g => by
  cases x <;> simp [execOp, hρ c _ hc, hρ a _ ha, hρ b _ hb, asBool]

/-- Whole numbers. -/
theorem xadd {k : IntKind} {x y : Operand} {a b : Int} {xt yt : TypeId} (hx : ev s x = some (.int k a)) (hy : ev s y = some (.int k b)) : Ex P s (.binOp .add xt x y yt) t (.int k (k.wrap (a + b))) := fun w ρ hρ d pos af g => by
  simp [execOp, hρ x _ hx, hρ y _ hy, eqGuard, binOp, Op.intArith]
theorem xsub {k : IntKind} {x y : Operand} {a b : Int} {xt yt : TypeId} (hx : ev s x = some (.int k a)) (hy : ev s y = some (.int k b)) : Ex P s (.binOp .sub xt x y yt) t (.int k (k.wrap (a - b))) := fun w ρ hρ d pos af g => by
  simp [execOp, hρ x _ hx, hρ y _ hy, eqGuard, binOp, Op.intArith]
theorem xmul {k : IntKind} {x y : Operand} {a b : Int} {xt yt : TypeId} (hx : ev s x = some (.int k a)) (hy : ev s y = some (.int k b)) : Ex P s (.binOp .mul xt x y yt) t (.int k (k.wrap (a * b))) := fun w ρ hρ d pos af g => by
  simp [execOp, hρ x _ hx, hρ y _ hy, eqGuard, binOp, Op.intArith]
theorem xaddn {x y : Operand} {a b : Int} {xt yt : TypeId} (hx : ev s x = some (.int .i64 a)) (hy : ev s y = some (.int .i64 b)) (h : -9223372036854775808 ≤ a + b ∧ a + b ≤ 9223372036854775807) : Ex P s (.binOp .add xt x y yt) t (.int .i64 (a + b)) := by
  have := xadd (P := P) (t := t) (xt := xt) (yt := yt) hx hy
  rwa [IntWalk.i64_in _ h] at this
theorem xsubn {x y : Operand} {a b : Int} {xt yt : TypeId} (hx : ev s x = some (.int .i64 a)) (hy : ev s y = some (.int .i64 b)) (h : -9223372036854775808 ≤ a - b ∧ a - b ≤ 9223372036854775807) : Ex P s (.binOp .sub xt x y yt) t (.int .i64 (a - b)) := by
  have := xsub (P := P) (t := t) (xt := xt) (yt := yt) hx hy
  rwa [IntWalk.i64_in _ h] at this
theorem xlss {k : IntKind} {x y : Operand} {a b : Int} {xt yt : TypeId} (hx : ev s x = some (.int k a)) (hy : ev s y = some (.int k b)) : Ex P s (.binOp .lss xt x y yt) t (.bool (decide (a < b))) := fun w ρ hρ d pos af g => by
  simp [execOp, hρ x _ hx, hρ y _ hy, eqGuard, binOp, Op.intCmp]
theorem xleq {k : IntKind} {x y : Operand} {a b : Int} {xt yt : TypeId} (hx : ev s x = some (.int k a)) (hy : ev s y = some (.int k b)) : Ex P s (.binOp .leq xt x y yt) t (.bool (decide (a ≤ b))) := fun w ρ hρ d pos af g => by
  simp [execOp, hρ x _ hx, hρ y _ hy, eqGuard, binOp, Op.intCmp]
theorem xgtr {k : IntKind} {x y : Operand} {a b : Int} {xt yt : TypeId} (hx : ev s x = some (.int k a)) (hy : ev s y = some (.int k b)) : Ex P s (.binOp .gtr xt x y yt) t (.bool (decide (b < a))) := fun w ρ hρ d pos af g => by
  simp [execOp, hρ x _ hx, hρ y _ hy, eqGuard, binOp, Op.intCmp]
theorem xgeq {k : IntKind} {x y : Operand} {a b : Int} {xt yt : TypeId} (hx : ev s x = some (.int k a)) (hy : ev s y = some (.int k b)) : Ex P s (.binOp .geq xt x y yt) t (.bool (decide (b ≤ a))) := fun w ρ hρ d pos af g => by
  simp [execOp, hρ x _ hx, hρ y _ hy, eqGuard, binOp, Op.intCmp]
theorem xeql {k : IntKind} {x y : Operand} {a b : Int} {xt yt : TypeId} (hx : ev s x = some (.int k a)) (hy : ev s y = some (.int k b)) : Ex P s (.binOp .eql xt x y yt) t (.bool (decide (a = b))) := fun w ρ hρ d pos af g => by
  simp [execOp, hρ x _ hx, hρ y _ hy, eqGuard, binOp, Op.intCmp]
  rfl
theorem xneq {k : IntKind} {x y : Operand} {a b : Int} {xt yt : TypeId} (hx : ev s x = some (.int k a)) (hy : ev s y = some (.int k b)) : Ex P s (.binOp .neq xt x y yt) t (.bool (!decide (a = b))) := fun w ρ hρ d pos af g => by
  simp [execOp, hρ x _ hx, hρ y _ hy, eqGuard, binOp, Op.intCmp]
  rfl
theorem xnot {x : Operand} {b : Bool} {xt : TypeId} (hx : ev s x = some (.bool b)) : Ex P s (.unOp .not xt x) t (.bool (!b)) := fun w ρ hρ d pos af g => by
  simp [execOp, hρ x _ hx, Op.unary]
end ex
end Go.Proofs.Ythmhbonhagjnnaa
