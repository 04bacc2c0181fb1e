/- Walking code by what the slots are known to hold: lists of slots and values, worlds and heaps as letters. -/
import Derived.Test.YthmhbonhagjnnaaReg
import Derived.WalkKit
import Derived.WalkLawsBesides
import Derived.Deep.LoopGhost
namespace Go.Proofs.Ythmhbonhagjnnaa
open Go.RowKit

abbrev Sl := List (Nat × Value)
def lk : Sl → Nat → Option Value
  | [], _ => none
  | (d, v) :: s, t => bif Nat.beq t d then some v else lk s t
def ev (s : Sl) : Operand → Option Value
  | .tmp t => lk s t
  | .const v => some v
  | .global g => some (.pointer (some ⟨g, 0, none⟩))
  | .func f => some (.func (.func f) #[] #[])

/-- The frame holds what the list says. -/
structure Rep (N : Nat) (ds : List Deferred) (a : Act) (s : Sl) : Prop where
  size : a.tmps.size = N
  defers : a.defers = ds
  at_ : ∀ t v, lk s t = some v → a.tmps.getD t undef = v

theorem Rep.ev {N : Nat} {ds : List Deferred} {a : Act} {s : Sl} (h : Rep N ds a s) {x : Operand} {v : Value} (hx : ev s x = some v) : a.eval x = v := by
  cases x with
  | tmp t => exact h.at_ t v hx
  | const u => simp [Ythmhbonhagjnnaa.ev] at hx; exact hx
  | global g => simp [Ythmhbonhagjnnaa.ev] at hx; exact hx
  | func f => simp [Ythmhbonhagjnnaa.ev] at hx; exact hx

theorem Rep.put {N : Nat} {ds : List Deferred} {a : Act} {s : Sl} (h : Rep N ds a s) {d : Nat} (hd : Nat.blt d N = true) (v : Value) : Rep N ds (a.put (some d) v) ((d, v) :: s) := by
  have hd' : d < a.tmps.size := by rw [h.size]; exact Nat.le_of_ble_eq_true hd
  refine ⟨by simp [Act.put, h.size], by simp [Act.put, h.defers], fun t u hu => ?_⟩
  simp only [lk] at hu
  by_cases e : t = d
  · subst e
    simp at hu
    subst hu
    simp [Act.put, hd']
  · have : Nat.beq t d = false := by
      cases hb : Nat.beq t d with
      | false => rfl
      | true => exact absurd (Nat.eq_of_beq_eq_true hb) e
    rw [this] at hu
    simp only [cond_false] at hu
    have := h.at_ t u hu
    simp only [Act.put, Array.getD_eq_getD_getElem?] at this ⊢
    rw [Array.getElem?_setIfInBounds_ne (fun h => e h.symm)]
    exact this

theorem Rep.put_none {N : Nat} {ds : List Deferred} {a : Act} {s : Sl} (h : Rep N ds a s) (v : Value) : Rep N ds (a.put none v) s := h

/-- A list that says less. -/
theorem Rep.less {N : Nat} {ds : List Deferred} {a : Act} {s s' : Sl} (h : Rep N ds a s) (hl : ∀ t v, lk s' t = some v → lk s t = some v) : Rep N ds a s' :=
  ⟨h.size, h.defers, fun t v hv => h.at_ t v (hl t v hv)⟩

def W (P : Program) (N : Nat) (ds : List Deferred) (c : Code) (Q : Exit → Act → World → Prop) (s : Sl) (w : World) : Prop := ∀ a, Rep N ds a s → c.wp P Q a w
def Fin (N : Nat) (ds : List Deferred) (e : Exit) (Q : Exit → Act → World → Prop) (s : Sl) (w : World) : Prop := ∀ a, Rep N ds a s → Q e a w
def L (P : Program) (N : Nat) (ds : List Deferred) (ops : Array Oper) (C : World → Prop) (Q : Exit → Act → World → Prop) (p : Plan) (s : Sl) (w : World) : Prop := ∀ a, Rep N ds a s → wl P ops C Q p a w

section codes
variable {P : Program} {N : Nat} {ds : List Deferred} {Q : Exit → Act → World → Prop} {s : Sl} {w : World}

theorem W_seq {x y : Code} (h : W P N ds x (Exit.then (y.wp P Q) Q) s w) : W P N ds (.seq x y) Q s w := fun a ha => wp_seq (h a ha)
theorem W_cond {c : Operand} {x y : Code} {b : Bool} (hc : ev s c = some (.bool b)) (ht : b = true → W P N ds x Q s w) (hf : b = false → W P N ds y Q s w) : W P N ds (.cond c x y) Q s w :=
  fun a ha => wp_cond_split (ha.ev hc) (fun h => ht h a ha) (fun h => hf h a ha)
theorem W_if {c : Operand} {x y : Code} (hc : ev s c = some (.bool true)) (h : W P N ds x Q s w) : W P N ds (.cond c x y) Q s w := fun a ha => wp_cond_true (ha.ev hc) (h a ha)
theorem W_else {c : Operand} {x y : Code} (hc : ev s c = some (.bool false)) (h : W P N ds y Q s w) : W P N ds (.cond c x y) Q s w := fun a ha => wp_cond_false (ha.ev hc) (h a ha)
theorem W_skip (h : Fin N ds .normal Q s w) : W P N ds .skip Q s w := fun a ha => wp_skip (h a ha)
theorem W_label {l : Nat} (h : Fin N ds .normal Q s w) : W P N ds (.label l) Q s w := fun a ha => wp_label (h a ha)
theorem W_block {id : Nat} {c : Code} (h : W P N ds c (Exit.inBlock id Q) s w) : W P N ds (.block id c) Q s w := fun a ha => wp_block (h a ha)
theorem W_exit {id : Nat} (h : Fin N ds (.exit id) Q s w) : W P N ds (.exit id) Q s w := fun a ha => wp_exit (h a ha)
theorem W_ret (h : Fin N ds .ret Q s w) : W P N ds .ret Q s w := fun a ha => wp_ret (h a ha)
theorem W_less {c : Code} {s' : Sl} (hl : ∀ t v, lk s' t = some v → lk s t = some v) (h : W P N ds c Q s' w) : W P N ds c Q s w := fun a ha => h a (ha.less hl)

/-- A loop: ι packs what turns from round to round. -/
theorem W_loop {ι : Type} {c : Code} (S : ι → Sl) (M : ι → World → Prop) (μ : ι → Nat) (i₀ : ι) (hS : ∀ t v, lk (S i₀) t = some v → lk s t = some v) (h₀ : M i₀ w)
    (round : ∀ i w, M i w → W P N ds c (Exit.then (fun a' w' => ∃ i', M i' w' ∧ Rep N ds a' (S i') ∧ μ i' < μ i) Q) (S i) w) : W P N ds (.loop c) Q s w := by
  intro a ha
  refine wp_loop_ghost (fun n a w => ∃ i, M i w ∧ Rep N ds a (S i) ∧ μ i = n) (μ i₀) ⟨i₀, h₀, ha.less hS, rfl⟩ ?_
  intro n a w ⟨i, hM, hR, hn⟩
  refine wp_mono (round i w hM a hR) fun e a' w' h => ?_
  cases e <;> try exact h
  obtain ⟨i', h1, h2, h3⟩ := h
  exact ⟨μ i', by omega, i', h1, h2, rfl⟩

theorem F_then {K : Act → World → Prop} {y : Code} {Q' : Exit → Act → World → Prop} (hK : K = y.wp P Q') (h : W P N ds y Q' s w) : Fin N ds .normal (Exit.then K Q) s w := by subst hK; exact h
theorem F_seq {y : Code} {Q' : Exit → Act → World → Prop} (h : W P N ds y Q' s w) : Fin N ds .normal (Exit.then (y.wp P Q') Q) s w := h
theorem F_block {id : Nat} (h : Fin N ds .normal Q s w) : Fin N ds .normal (Exit.inBlock id Q) s w := h
theorem F_exit_here {id : Nat} (h : Fin N ds .normal Q s w) : Fin N ds (.exit id) (Exit.inBlock id Q) s w := fun _ ha => by simpa [Exit.inBlock] using h _ ha
theorem F_exit_on {id j : Nat} (hj : Nat.beq j id = false) (h : Fin N ds (.exit id) Q s w) : Fin N ds (.exit id) (Exit.inBlock j Q) s w := fun _ ha => by
  have : ¬ id = j := fun e => by subst e; simp at hj
  simpa [Exit.inBlock, this] using h _ ha
theorem F_exit_then {id : Nat} {K : Act → World → Prop} (h : Fin N ds (.exit id) Q s w) : Fin N ds (.exit id) (Exit.then K Q) s w := h
theorem F_ret_then {K : Act → World → Prop} (h : Fin N ds .ret Q s w) : Fin N ds .ret (Exit.then K Q) s w := h
theorem F_ret_block {id : Nat} (h : Fin N ds .ret Q s w) : Fin N ds .ret (Exit.inBlock id Q) s w := h
/-- The end of a loop's round. -/
theorem F_round {ι : Type} {S : ι → Sl} {M : ι → World → Prop} {μ : ι → Nat} {m : Nat} (i' : ι) (hM : M i' w) (hμ : μ i' < m) (hS : ∀ t v, lk (S i') t = some v → lk s t = some v) :
    Fin N ds .normal (Exit.then (fun a' w' => ∃ i', M i' w' ∧ Rep N ds a' (S i') ∧ μ i' < m) Q) s w := fun _ ha => ⟨i', hM, ha.less hS, hμ⟩

/-- The function's end. -/
theorem F_end1 {fn : Func} {R : Ending → World → Prop} {t : Nat} {v : Value} (hr : fn.results = #[.tmp t]) (ht : lk s t = some v) (h : R (.returned v) w) : Fin N [] .ret (bodyPost P fn R) s w :=
  fun _ ha => ⟨ha.defers, _, results_tmp hr _ _ _, by rw [ha.at_ t v ht]; exact h⟩
theorem F_end2 {fn : Func} {R : Ending → World → Prop} {t u : Nat} {v x : Value} (hr : fn.results = #[.tmp t, .tmp u]) (ht : lk s t = some v) (hu : lk s u = some x) (h : R (.returned (.tuple #[v, x])) w) : Fin N [] .ret (bodyPost P fn R) s w :=
  fun _ ha => ⟨ha.defers, _, results_tmp2 hr _ _ _, by rw [ha.at_ t v ht, ha.at_ u x hu]; exact h⟩
theorem F_end0 {fn : Func} {R : Ending → World → Prop} (hr : fn.results = #[]) (h : R (.returned (.tuple #[])) w) : Fin N [] .normal (bodyPost P fn R) s w :=
  fun _ ha => ⟨ha.defers, _, results_none hr _ _ _, h⟩
theorem F_end0r {fn : Func} {R : Ending → World → Prop} (hr : fn.results = #[]) (h : R (.returned (.tuple #[])) w) : Fin N [] .ret (bodyPost P fn R) s w :=
  fun _ ha => ⟨ha.defers, _, results_none hr _ _ _, h⟩

/-- What is asked at a panic does not hang on the slots. -/
def Pk (Q : Exit → Act → World → Prop) : Prop := ∀ c a d v w, Q (.panic c) (Act.put a d v) w → Q (.panic c) a w
theorem pkt {K : Act → World → Prop} (h : Pk Q) : Pk (Exit.then K Q) := h
theorem pkb {id : Nat} (h : Pk Q) : Pk (Exit.inBlock id Q) := h
theorem pkB {fn : Func} {R : Ending → World → Prop} : Pk (bodyPost P fn R) := fun _ a d _ _ h => by
  cases d <;> exact h
theorem W_reg {id : Nat} {ops : Array Oper} (p : Plan) (hok : (p.text 0 ops.size && p.tails.isEmpty) = true) (h : L P N ds ops (fun _ => True) Q p s w) : W P N ds (.region id ops false) Q s w :=
  fun a ha => wp_region_seq p hok (h a ha)
theorem W_draw {id : Nat} {ops : Array Oper} (p : Plan) (C : World → Prop) (hm : P.follows .mixedOrders = true) (hok : p.good ops = true)
    (hQ : Pk Q) (hC : C w.drew) (h : L P N ds ops C Q p s w.drew) : W P N ds (.region id ops true) Q s w :=
  fun a ha => wp_region_plan p C hm hok hQ (fun _ => hC) (h a ha)
end codes

/-! ### Operations -/
/-- The guard says yes; no. -/
def gok (ops : Array Oper) (s : Sl) : Option (Nat × Bool) → Bool
  | none => true
  | some (j, want) => match (ops[j]?).bind (·.dst) with
    | some t => match lk s t with | some (.bool b) => b == want | _ => false
    | none => false
def gno (ops : Array Oper) (s : Sl) : Option (Nat × Bool) → Bool
  | none => false
  | some (j, want) => match (ops[j]?).bind (·.dst) with
    | some t => match lk s t with | some (.bool b) => b != want | some (.tuple _) => true | _ => false
    | none => false
end Go.Proofs.Ythmhbonhagjnnaa
