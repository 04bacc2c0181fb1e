/- Maps: what they hold as a list of keys and values, each key once, in the order in which they came. -/
import Derived.Test.YthmhbonhagjnnaaVa
namespace Go.Proofs.Ythmhbonhagjnnaa
open Go.RowKit
set_option linter.unusedVariables false
set_option linter.unusedSimpArgs false
set_option linter.unusedSectionVars false

structure KeyOk {α : Type} [DecidableEq α] (P : Program) (kt : TypeId) (KE : α → Value) : Prop where
  chk : ∀ b x w, (Instr.checkKey b 10000 kt (KE x)).run P w = .ok () w
  eq : ∀ x y w, (Op.equal kt (KE x) (KE y)).run P w = .ok (decide (x = y)) w
  now : ∃ d, P.underlying kt = some d ∧ ((∀ x y, Instr.sameNow d (KE x) (KE y) = none) ∨ (∀ x y, Instr.sameNow d (KE x) (KE y) = some (decide (x = y))))
  bits : ∀ x, Instr.sameBits 10000 (KE x) (KE x) = true
/-- The first place of a key. -/
def fndI {α β : Type} [DecidableEq α] (k : α) : List (α × β) → Nat → Option (Nat × β)
  | [], _ => none
  | e :: l, i => if k = e.1 then some (i, e.2) else fndI k l (i + 1)
def Ents {α β : Type} (KE : α → Value) (VE : β → Value) (es : List MapEntry) (l : List (α × β)) : Prop := es.map (fun e => (e.key, e.val)) = l.map fun p => (KE p.1, VE p.2)
section
variable {α β : Type} [DecidableEq α] {P : Program} {kt : TypeId} {KE : α → Value} {VE : β → Value} {w : World}
theorem run_findAsking (hk : KeyOk P kt KE) (k : α) : ∀ (es : List MapEntry) (l : List (α × β)) (i : Nat), Ents KE VE es l → (Instr.findAsking kt (KE k) es i).run P w = .ok ((fndI k l i).map fun p => (p.1, VE p.2)) w
  | [], [], i, _ => by simp [Instr.findAsking, fndI]
  | [], _ :: _, i, h => by simp [Ents] at h
  | _ :: _, [], i, h => by simp [Ents] at h
  | e :: es, p :: l, i, h => by
    simp only [Ents, List.map_cons, List.cons.injEq, Prod.mk.injEq] at h
    obtain ⟨⟨h1, h2⟩, h3⟩ := h
    have ih := run_findAsking hk k es l (i + 1) h3
    simp only [Instr.findAsking, Sem.run_bind, h1, hk.eq, Result.andThen_ok, fndI]
    by_cases hx : k = p.1
    · simp [hx, h2]
    · simp [hx, ih]
theorem findNow_eq {d : TypeDesc} (hn : ∀ x y, Instr.sameNow d (KE x) (KE y) = some (decide (x = y))) (k : α) : ∀ (es : List MapEntry) (l : List (α × β)) (i : Nat), Ents KE VE es l → Instr.findNow d (KE k) es i = some ((fndI k l i).map fun p => (p.1, VE p.2))
  | [], [], i, _ => rfl
  | [], _ :: _, i, h => by simp [Ents] at h
  | _ :: _, [], i, h => by simp [Ents] at h
  | e :: es, p :: l, i, h => by
    simp only [Ents, List.map_cons, List.cons.injEq, Prod.mk.injEq] at h
    obtain ⟨⟨h1, h2⟩, h3⟩ := h
    have ih := findNow_eq hn k es l (i + 1) h3
    simp only [Instr.findNow, h1, hn, fndI]
    by_cases hx : k = p.1
    · simp [hx, h2]
    · simp [hx, ih]
theorem run_findKey (hk : KeyOk P kt KE) (k : α) {es : List MapEntry} {l : List (α × β)} (h : Ents KE VE es l) : (Instr.findKey kt (KE k) es).run P w = .ok ((fndI k l 0).map fun p => (p.1, VE p.2)) w := by
  obtain ⟨d, hd, hn⟩ := hk.now
  simp only [Instr.findKey, Sem.run_bind, run_underlying hd, Result.andThen_ok]
  rcases hn with hn | hn
  · cases es with
    | nil =>
      cases l with
      | nil => simp [Instr.findNow, fndI]
      | cons _ _ => simp [Ents] at h
    | cons e es =>
      cases l with
      | nil => simp [Ents] at h
      | cons p l =>
        have h0 := h
        simp only [Ents, List.map_cons, List.cons.injEq, Prod.mk.injEq] at h0
        have : Instr.findNow d (KE k) (e :: es) 0 = none := by simp [Instr.findNow, h0.1.1, hn]
        rw [this]
        exact run_findAsking hk k _ _ 0 h
  · rw [findNow_eq hn k es l 0 h]
    simp
end
/-- A map that lies in block b. -/
structure Mp {α β : Type} (w : World) (b : Nat) (KE : α → Value) (VE : β → Value) (l : List (α × β)) : Prop where
  ex : ∃ es clock, w.heap[b]? = some (.map es clock) ∧ Ents KE VE es.toList l ∧ (∀ e ∈ es.toList, e.born < clock) ∧ (es.toList.map (·.born)).Nodup
  keys : (l.map (·.1)).Nodup
def getM {α β : Type} [DecidableEq α] (l : List (α × β)) (k : α) : Option β := (fndI k l 0).map (·.2)
def setM {α β : Type} [DecidableEq α] (l : List (α × β)) (k : α) (v : β) : List (α × β) :=
  match fndI k l 0 with
  | some (i, _) => l.set i (k, v)
  | none => l ++ [(k, v)]
section
variable {α β : Type} [DecidableEq α]
theorem Mp.le {α β : Type} {KE : α → Value} {VE : β → Value} {w w' : World} {b : Nat} {l : List (α × β)} (h : Mp w b KE VE l) (hl : Le w w') : Mp w' b KE VE l := by
  obtain ⟨⟨es, c, h1, h2⟩, h3⟩ := h
  exact ⟨⟨es, c, hl.bk h1, h2⟩, h3⟩
theorem Mp.lx {KE : α → Value} {VE : β → Value} {S : List Nat} {w w' : World} {b : Nat} {l : List (α × β)} (hl : Lx S w w') (hn : b ∉ S) (h : Mp w b KE VE l) : Mp w' b KE VE l := by
  obtain ⟨⟨es, c, h1, h2⟩, h3⟩ := h
  exact ⟨⟨es, c, hl.bk hn h1, h2⟩, h3⟩
theorem fndI_some {k : α} : ∀ {l : List (α × β)} {i j : Nat} {v : β}, fndI k l i = some (j, v) → i ≤ j ∧ l[j - i]? = some (k, v)
  | [], i, j, v, h => by simp [fndI] at h
  | p :: l, i, j, v, h => by
    simp only [fndI] at h
    split at h
    · rename_i hk
      simp at h
      obtain ⟨rfl, rfl⟩ := h
      exact ⟨Nat.le_refl _, by simp [hk]⟩
    · obtain ⟨h1, h2⟩ := fndI_some h
      refine ⟨by omega, ?_⟩
      rw [show j - i = (j - (i + 1)) + 1 by omega]
      simpa using h2
theorem fndI_none {k : α} : ∀ {l : List (α × β)} {i : Nat}, fndI k l i = none ↔ k ∉ l.map (·.1)
  | [], i => by simp [fndI]
  | p :: l, i => by
    simp only [fndI]
    split
    · rename_i h; simp [h]
    · rename_i h
      rw [fndI_none]
      simp [h]
end
section ex
variable {α β : Type} [DecidableEq α] {P : Program} {s : Sl} {t : TypeId} {w : World} {KE : α → Value} {VE : β → Value}
theorem run_getObj_map {b c : Nat} {es : Array MapEntry} (h : w.heap[b]? = some (.map es c)) : (getObj b).run P w = .ok (.map es c) w := by
  simp [getObj, Sem.run, h]
theorem run_setObj_map {b c c' : Nat} {es es' : Array MapEntry} (h : w.heap[b]? = some (.map es c)) : (setObj b (.map es' c')).run P w = .ok () { w with heap := w.heap.setIfInBounds b (.map es' c') } := by
  simp [setObj, Sem.run, h]
theorem Lx.obj (w : World) (b : Nat) (o : Obj) : Lx [b] w { w with heap := w.heap.setIfInBounds b o } :=
  ⟨rfl, rfl, rfl, by simp, Nat.le_refl _, fun k hk hn => Array.getElem?_setIfInBounds_ne (fun e => hn (by simp [e]))⟩
theorem xmk {t' : TypeId} : ExT P s (.makeMap t' none) t w fun v w' => ∃ b, v = .map (some b) ∧ Le w w' ∧ Mp w' b KE VE ([] : List (α × β)) ∧ b = w.heap.size := fun ρ hρ d pos af g => by
  refine ⟨.map (some w.heap.size), w.alloc (.map #[] 0), ?_, _, rfl, Le.alloc w _, ⟨⟨#[], 0, heap_alloc_self w _, rfl, by simp, by simp⟩, by simp⟩, rfl⟩
  simp only [execOp, Option.map_none, Instr.makeMap, newObj, Sem.run_bind]
  rfl
theorem run_lookup {t' kt vt : TypeId} {b : Nat} {l : List (α × β)} {k : α} {ok : Bool} {z : Value} (ht : P.underlying t' = some (.map kt vt)) (hk : KeyOk P kt KE) (hz : ∀ w, (zeroValue vt).run P w = .ok z w) (hm : Mp w b KE VE l) :
    (Instr.lookup t' (.map (some b)) (KE k) ok).run P w = .ok (if ok then .tuple #[((getM l k).map VE).getD z, .bool (getM l k).isSome] else ((getM l k).map VE).getD z) w := by
  obtain ⟨⟨es, c, h1, h2, _⟩, _⟩ := hm
  simp only [Instr.lookup, Sem.run_bind, run_underlying ht, Result.andThen_ok, run_getObj_map h1, Sem.run_pure, hk.chk, run_findKey hk k h2, getM]
  cases fndI k l 0 with
  | none => cases ok <;> simp [hz]
  | some p => cases ok <;> simp
theorem xlk {t' kt vt : TypeId} {x y : Operand} {b : Nat} {l : List (α × β)} {k : α} {z : Value} (ht : P.underlying t' = some (.map kt vt)) (hk : KeyOk P kt KE) (hz : ∀ w, (zeroValue vt).run P w = .ok z w) (hm : Mp w b KE VE l) (hx : ev s x = some (.map (some b))) (hy : ev s y = some (KE k)) :
    ExW P s (.lookup t' x y false) t (((getM l k).map VE).getD z) w := fun ρ hρ d pos af g => by
  simp only [execOp, hρ x _ hx, hρ y _ hy, Sem.run_bind, run_lookup ht hk hz hm, Result.andThen_ok, Sem.run_pure]
  rfl
theorem xlk2 {t' kt vt : TypeId} {x y : Operand} {b : Nat} {l : List (α × β)} {k : α} {z : Value} (ht : P.underlying t' = some (.map kt vt)) (hk : KeyOk P kt KE) (hz : ∀ w, (zeroValue vt).run P w = .ok z w) (hm : Mp w b KE VE l) (hx : ev s x = some (.map (some b))) (hy : ev s y = some (KE k)) :
    ExW P s (.lookup t' x y true) t (.tuple #[((getM l k).map VE).getD z, .bool (getM l k).isSome]) w := fun ρ hρ d pos af g => by
  simp only [execOp, hρ x _ hx, hρ y _ hy, Sem.run_bind, run_lookup ht hk hz hm, Result.andThen_ok, Sem.run_pure]
  rfl
theorem toList_modify {γ : Type} (a : Array γ) (i : Nat) (f : γ → γ) : (a.modify i f).toList = a.toList.modify i f := by
  apply List.ext_getElem?
  intro j
  rw [Array.getElem?_toList, Array.getElem?_modify, List.getElem?_modify, Array.getElem?_toList]
  split <;> simp_all
theorem map_modify_same {γ δ : Type} (g : γ → δ) (f : γ → γ) (h : ∀ x, g (f x) = g x) (l : List γ) (i : Nat) : (l.modify i f).map g = l.map g := by
  apply List.ext_getElem?
  intro j
  simp only [List.getElem?_map, List.getElem?_modify]
  cases l[j]? <;> simp; split <;> simp [h]
theorem xmu {t' kt vt : TypeId} {x y z : Operand} {b : Nat} {l : List (α × β)} {k : α} {v : β} (ht : P.underlying t' = some (.map kt vt)) (hk : KeyOk P kt KE) (hm : Mp w b KE VE l) (hx : ev s x = some (.map (some b))) (hy : ev s y = some (KE k)) (hz : ev s z = some (VE v)) :
    ExU P s (.mapUpdate t' x y z) t w fun w' => Lx [b] w w' ∧ Mp w' b KE VE (setM l k v) := fun ρ hρ d pos af g => by
  obtain ⟨⟨es, c, h1, h2, h3, h4⟩, h5⟩ := hm
  have hlt : b < w.heap.size := (Array.getElem?_eq_some_iff.1 h1).1
  have hrun : ∀ w', (Instr.mapUpdate t' (.map (some b)) (KE k) (VE v)).run P w = .ok () w' → (execOp ρ ⟨d, .mapUpdate t' x y z, t, pos, af, g⟩).run P w = .ok .skip w' := fun w' h => by
    simp only [execOp, hρ x _ hx, hρ y _ hy, hρ z _ hz, Sem.run_bind, h, Result.andThen_ok, Sem.run_pure]
  have hat : ∀ o, ({ w with heap := w.heap.setIfInBounds b o } : World).heap[b]? = some o := fun o => by simp [hlt]
  have hfind := run_findKey (w := w) hk k h2
  cases hf : fndI k l 0 with
  | none =>
    rw [hf] at hfind
    refine ⟨_, hrun _ ?_, Lx.obj w b (.map (es.push { key := KE k, val := VE v, born := c }) (c + 1)), ?_⟩
    · simp only [Instr.mapUpdate, Sem.run_bind, run_underlying ht, Result.andThen_ok, run_getObj_map h1, hk.chk, hfind, Option.map_none, run_setObj_map h1]
    · have hn := fndI_none.1 hf
      have e : setM l k v = l ++ [(k, v)] := by simp [setM, hf]
      rw [e]
      refine ⟨⟨_, _, hat _, ?_, ?_, ?_⟩, ?_⟩
      · have := h2
        simp only [Ents] at this ⊢
        simp [this]
      · intro e he
        simp only [Array.toList_push, List.mem_append, List.mem_singleton] at he
        rcases he with he | he
        · have := h3 e he; omega
        · subst he; simp
      · simp only [Array.toList_push, List.map_append, List.map_cons, List.map_nil]
        refine List.nodup_append.2 ⟨h4, by simp, ?_⟩
        intro a ha b' hb
        simp at hb; subst hb
        obtain ⟨e, he, rfl⟩ := List.mem_map.1 ha
        have := h3 e he; omega
      · simp only [List.map_append, List.map_cons, List.map_nil]
        refine List.nodup_append.2 ⟨h5, by simp, ?_⟩
        intro a ha b' hb
        simp at hb; subst hb
        intro e; subst e; exact hn ha
  | some p =>
    obtain ⟨i, v0⟩ := p
    rw [hf] at hfind
    obtain ⟨_, hi⟩ := fndI_some hf
    rw [Nat.sub_zero] at hi
    have hilt := (List.getElem?_eq_some_iff.1 hi).1
    have hlen : es.size = l.length := by have := congrArg List.length h2; simpa [Ents] using this
    have hei : (es[i]?.map (·.key)) = some (KE k) := by
      have := congrArg (fun l => l[i]?) h2
      simp only [List.getElem?_map, hi, Option.map_some, Array.getElem?_toList] at this
      cases h : es[i]? with
      | none => rw [h] at this; simp at this
      | some e => rw [h] at this; simp at this; simp [this.1]
    refine ⟨_, hrun _ ?_, Lx.obj w b (.map (es.modify i fun e => { e with key := KE k, val := VE v }) c), ?_⟩
    · simp only [Instr.mapUpdate, Sem.run_bind, run_underlying ht, Result.andThen_ok, run_getObj_map h1, hk.chk, hfind, Option.map_some, Instr.keyThatStays, hei, Option.getD_some, hk.bits, if_true, Sem.run_pure, run_setObj_map h1]
    · have e : setM l k v = l.set i (k, v) := by simp [setM, hf]
      rw [e]
      refine ⟨⟨_, _, hat _, ?_, ?_, ?_⟩, ?_⟩
      · simp only [Ents, toList_modify]
        apply List.ext_getElem?
        intro j
        have := congrArg (fun l => l[j]?) h2
        simp only [List.getElem?_map, List.getElem?_modify, List.getElem?_set] at this ⊢
        by_cases hj : i = j
        · subst hj
          simp only [if_true, hilt]
          cases h : es.toList[i]? with
          | none => rw [h] at this; simp [hi] at this
          | some e => simp
        · simp only [hj, if_false]
          cases h : es.toList[j]? <;> rw [h] at this <;> simpa using this
      · intro e he
        rw [toList_modify] at he
        have : e.born ∈ (es.toList.modify i fun e => { e with key := KE k, val := VE v }).map (·.born) := List.mem_map.2 ⟨e, he, rfl⟩
        rw [map_modify_same (fun e : MapEntry => e.born) (fun e => { key := KE k, val := VE v, born := e.born }) (fun _ => rfl)] at this
        obtain ⟨e', he', h'⟩ := List.mem_map.1 this
        have := h3 e' he'; omega
      · rw [toList_modify, map_modify_same (fun e : MapEntry => e.born) (fun e => { key := KE k, val := VE v, born := e.born }) (fun _ => rfl)]; exact h4
      · have : (l.set i (k, v)).map (·.1) = l.map (·.1) := by
          apply List.ext_getElem?
          intro j
          simp only [List.getElem?_map, List.getElem?_set]
          by_cases hj : i = j
          · subst hj; simp only [hilt, if_true]; rw [hi]; rfl
          · simp [hj]
        rw [this]; exact h5
end ex
theorem Le.mp {α β : Type} {KE : α → Value} {VE : β → Value} {w w' : World} {b : Nat} {l : List (α × β)} (hl : Le w w') (h : Mp w b KE VE l) : Mp w' b KE VE l := h.le hl
theorem Lx.mp {α β : Type} {KE : α → Value} {VE : β → Value} {S : List Nat} {w w' : World} {b : Nat} {l : List (α × β)} (hl : Lx S w w') (hn : b ∉ S) (h : Mp w b KE VE l) : Mp w' b KE VE l := by
  obtain ⟨⟨es, c, h1, h2⟩, h3⟩ := h
  exact ⟨⟨es, c, hl.bk hn h1, h2⟩, h3⟩
theorem Mp.lt {α β : Type} {KE : α → Value} {VE : β → Value} {w : World} {b : Nat} {l : List (α × β)} (h : Mp w b KE VE l) : b < w.heap.size := by
  obtain ⟨⟨es, c, h1, h2⟩, h3⟩ := h
  exact bk_lt h1
theorem run_checkKey_int {P : Program} {kt : TypeId} {k : IntKind} (h : P.underlying kt = some (.int k)) (b : Bool) (n : Nat) (x : Int) (k' : IntKind) (w : World) : (Instr.checkKey b (n + 1) kt (.int k' x)).run P w = .ok () w := by
  rw [Instr.checkKey]
  simp only [Sem.run_bind, run_underlying h, Result.andThen_ok, Sem.run_pure]
theorem keyOk_int {P : Program} {kt : TypeId} (h : P.underlying kt = some (.int .i64)) : KeyOk P kt (fun x : Int => .int .i64 x) where
  chk b x w := run_checkKey_int h b 9999 x .i64 w
  eq x y w := by
    have := run_equalIn_int (P := P) w 9999 kt .i64 .i64 x y h
    simp only [Op.equal, Op.maxDepth, this]
    rfl
  now := ⟨_, h, .inr fun x y => by simp [Instr.sameNow]; rfl⟩
  bits x := by simp [Instr.sameBits]
end Go.Proofs.Ythmhbonhagjnnaa
