/- Values put together and taken apart; conversions; results; what is disjoint. -/
import Derived.Test.YthmhbonhagjnnaaSt
import Derived.Laws.Pointers
import Derived.Laws.Small
import Derived.Laws.BitsAllLaws
namespace Go.Proofs.Ythmhbonhagjnnaa
open Go.RowKit
set_option linter.unusedVariables false
set_option linter.unusedSimpArgs false

/-! ### What is disjoint -/
theorem bk_lt {H : Heap} {b : Nat} {o : Obj} (h : H[b]? = some o) : b < H.size := (Array.getElem?_eq_some_iff.1 h).1
theorem Lx.refl (S : List Nat) (w : World) : Lx S w w := (Le.refl w).lx
theorem inn {x : Nat} : ∀ i ∈ ([] : List Nat), x ≤ i := by simp
theorem inc {x b y : Nat} {S : List Nat} (h : x ≤ y) (e : b = y) (r : ∀ i ∈ S, x ≤ i) : ∀ i ∈ b :: S, x ≤ i := fun i hi => by
  rcases List.mem_cons.1 hi with h1 | h1
  · subst h1; subst e; exact h
  · exact r i h1
theorem Ow.since {α : Type} {w base r : World} {e : TypeId} {E : Enc α} {v : Value} {l : List α} (ho : Ow w base e E v l) (h : r.heap.size ≤ base.heap.size) : ∀ i ∈ v.ownBlock.toList, r.heap.size ≤ i := fun i hi => by
  rcases ho.2 with ⟨rfl, _⟩ | ⟨g, cap, cur, rfl, hg, _⟩
  · simp [Value.ownBlock] at hi
  · simp [Value.ownBlock] at hi; omega
/-- A block is none of these: it is older, or newer. -/
theorem ni_nil {b : Nat} : b ∉ ([] : List Nat) := by simp
theorem ni_old {b c y : Nat} {S : List Nat} (h : b < y) (e : c = y) (r : b ∉ S) : b ∉ c :: S := fun hm => by
  rcases List.mem_cons.1 hm with h1 | h1
  · omega
  · exact r h1
theorem ni_new {b c y : Nat} {S : List Nat} (e : b = y) (h : c < y) (r : b ∉ S) : b ∉ c :: S := fun hm => by
  rcases List.mem_cons.1 hm with h1 | h1
  · omega
  · exact r h1
theorem ni_ne {b c : Nat} {S : List Nat} (e : b ≠ c) (r : b ∉ S) : b ∉ c :: S := fun hm => by
  rcases List.mem_cons.1 hm with h1 | h1
  · exact e h1
  · exact r h1
theorem Ow.ni_old {α : Type} {w base : World} {e : TypeId} {E : Enc α} {v : Value} {l : List α} {b : Nat} (ho : Ow w base e E v l) (h : b < base.heap.size) : b ∉ v.ownBlock.toList := fun hm => by
  have := ho.since (Nat.le_refl _) b hm; omega
theorem Ow.lt {α : Type} {w base : World} {e : TypeId} {E : Enc α} {v : Value} {l : List α} (ho : Ow w base e E v l) : ∀ i ∈ v.ownBlock.toList, i < w.heap.size := fun i hi => by
  rcases ho.2 with ⟨rfl, _⟩ | ⟨g, cap, cur, rfl, hg, hh, _⟩
  · simp [Value.ownBlock] at hi
  · have := bk_lt hh
    simp [Value.ownBlock] at hi; omega
theorem Ow.ni_new {α : Type} {w base : World} {e : TypeId} {E : Enc α} {v : Value} {l : List α} {b y : Nat} (ho : Ow w base e E v l) (e : b = y) (h : w.heap.size ≤ y) : b ∉ v.ownBlock.toList := fun hm => by
  have := ho.lt b hm; omega
/-- A slice lies in none of these. -/
theorem Off.nil {v : Value} : Off [] v := fun _ _ h => by simp at h
theorem Off.cons {v : Value} {b : Nat} {S : List Nat} (h : v.ownBlock ≠ some b) (r : Off S v) : Off (b :: S) v := fun c hc hm => by
  rcases List.mem_cons.1 hm with h1 | h1
  · subst h1; exact h hc
  · exact r c hc h1
theorem Ow.ne_old {α : Type} {w base : World} {e : TypeId} {E : Enc α} {v : Value} {l : List α} {b y : Nat} (ho : Ow w base e E v l) (e : b = y) (h : w.heap.size ≤ y) : v.ownBlock ≠ some b := fun hm => ho.ni_new e h (by rw [hm]; simp)
theorem Ow.ne_new {α : Type} {w base : World} {e : TypeId} {E : Enc α} {v : Value} {l : List α} {b : Nat} (ho : Ow w base e E v l) (h : b < base.heap.size) : v.ownBlock ≠ some b := fun hm => ho.ni_old h (by rw [hm]; simp)
theorem Off.row {v u : Value} (h : ∀ b, v.ownBlock = some b → u.ownBlock ≠ some b) : Off u.ownBlock.toList v := fun b hb hm => by
  have := h b hb
  cases hu : u.ownBlock with
  | none => rw [hu] at hm; simp at hm
  | some c => rw [hu] at hm this; simp at hm; subst hm; exact this rfl
theorem Ow.off_old {α β : Type} {w base w2 base2 : World} {e e2 : TypeId} {E : Enc α} {E2 : Enc β} {v u : Value} {l : List α} {m : List β} (ho : Ow w base e E v l) (hu : Ow w2 base2 e2 E2 u m) (h : w.heap.size ≤ base2.heap.size) : Off u.ownBlock.toList v := fun b hb hm => by
  have h1 := ho.lt b (by rw [hb]; simp)
  have h2 := hu.since (Nat.le_refl _) b hm
  omega
theorem Ow.off_new {α β : Type} {w base w2 base2 : World} {e e2 : TypeId} {E : Enc α} {E2 : Enc β} {v u : Value} {l : List α} {m : List β} (ho : Ow w base e E v l) (hu : Ow w2 base2 e2 E2 u m) (h : w2.heap.size ≤ base.heap.size) : Off u.ownBlock.toList v := fun b hb hm => by
  have h1 := hu.lt b hm
  have h2 := ho.since (Nat.le_refl _) b (by rw [hb]; simp)
  omega

theorem Apd.off {S : List Nat} {v v' : Value} {w w' : World} (h : Apd v v' w w') (ho : Off S v) (hlt : ∀ i ∈ S, i < w.heap.size) : Off S v' := fun b hb hm => by
  rcases h.blk with e | e
  · exact ho b (by rw [← e]; exact hb) hm
  · rw [hb] at e; cases e; have := hlt _ hm; omega
theorem Off.symm {u v : Value} (h : Off u.ownBlock.toList v) : Off v.ownBlock.toList u := fun b hb hm => by
  cases hv : v.ownBlock with
  | none => rw [hv] at hm; simp at hm
  | some c => rw [hv] at hm; simp at hm; subst hm; exact h b hv (by rw [hb]; simp)

theorem dr_nil {x : Nat} {S' : List Nat} : ∀ i ∈ ([] : List Nat), x ≤ i ∨ i ∈ S' := by simp
theorem dr_new {x b y : Nat} {S S' : List Nat} (h : x ≤ y) (e : b = y) (r : ∀ i ∈ S, x ≤ i ∨ i ∈ S') : ∀ i ∈ b :: S, x ≤ i ∨ i ∈ S' := fun i hi => by
  rcases List.mem_cons.1 hi with h1 | h1
  · subst h1; subst e; exact .inl h
  · exact r i h1
theorem dr_in {x b : Nat} {S S' : List Nat} (h : b ∈ S') (r : ∀ i ∈ S, x ≤ i ∨ i ∈ S') : ∀ i ∈ b :: S, x ≤ i ∨ i ∈ S' := fun i hi => by
  rcases List.mem_cons.1 hi with h1 | h1
  · subst h1; exact .inr h
  · exact r i h1
theorem dr_row {α : Type} {w base r : World} {e : TypeId} {E : Enc α} {v : Value} {l : List α} {S' : List Nat} (ho : Ow w base e E v l) (h : r.heap.size ≤ base.heap.size) : ∀ i ∈ v.ownBlock.toList, r.heap.size ≤ i ∨ i ∈ S' := fun i hi => .inl (ho.since h i hi)

theorem RdE.sub' {α : Type} {H : Heap} {E : Enc α} {v : Value} {l : List α} (h : RdE H E v l) {lo hi : Nat} (h1 : lo ≤ hi ∧ hi ≤ l.length) : RdE H E (subV v lo hi E.k) ((l.drop lo).take (hi - lo)) := h.sub h1.1 h1.2
theorem sub_get {α : Type} {l : List α} {lo m i : Nat} {y : α} (hy : l[lo + i]? = some y) (h : i < m) : ((l.drop lo).take m)[i]? = some y := by
  rw [List.getElem?_take_of_lt h, List.getElem?_drop, hy]
theorem drop_get {α : Type} {l : List α} {i : Nat} {y : α} (hy : l[i + 1]? = some y) : (l.drop 1)[i]? = some y := by
  rw [List.getElem?_drop, Nat.add_comm, hy]
/-! ### Results of any shape -/
inductive Rs (P : Program) (s : Sl) (w : World) : List ResultVar → List Value → Prop where
  | nil : Rs P s w [] []
  | tmp {t : Nat} {v : Value} {rs : List ResultVar} {vs : List Value} (ht : lk s t = some v) (h : Rs P s w rs vs) : Rs P s w (.tmp t :: rs) (v :: vs)
  | cell {p ty : Nat} {A : Addr} {v : Value} {rs : List ResultVar} {vs : List Value} (hp : lk s p = some (.pointer (some A))) (hl : (loadVar ty A).run P w = .ok v w) (h : Rs P s w rs vs) : Rs P s w (.cell p ty :: rs) (v :: vs)
section ends
variable {P : Program} {N : Nat} {ds : List Deferred} {s : Sl} {w : World}
theorem F_is {e : Exit} {Q : Exit → Act → World → Prop} (t : Nat) {u v : Value} (ht : lk s t = some u) (he : u = v) (h : Fin N ds e Q ((t, v) :: s) w) : Fin N ds e Q s w := fun a ha => h a (ha.over (by rw [ht, he]))
theorem Rs.run {rs : List ResultVar} {vs : List Value} (hv : Rs P s w rs vs) {a : Act} (ha : Rep N ds a s) (f : ResultVar → Sem Value) (hf : ∀ u, f (.tmp u) = pure (a.tmps.getD u undef)) (hc : ∀ p t, f (.cell p t) = (do loadVar t (← asAddr (a.tmps.getD p undef)))) :
    (rs.mapM f).run P w = .ok vs w := by
  induction hv with
  | nil => simp
  | tmp ht h ih => simp [List.mapM_cons, hf, ih, ha.at_ _ _ ht]
  | cell hp hl h ih => rw [List.mapM_cons, hc, ha.at_ _ _ hp]; simp [asAddr, hl, ih]
def tupV : List Value → Value
  | [v] => v
  | vs => .tuple vs.toArray
theorem run_results {fn : Func} {rs : List ResultVar} {vs : List Value} (hr : fn.results = rs.toArray) (hv : Rs P s w rs vs) {a : Act} (ha : Rep N ds a s) : (results fn a.tmps).run P w = .ok (tupV vs) w := by
  unfold results
  rw [hr, List.mapM_toArray]
  simp only [Sem.run_bind, Sem.run_map]
  rw [hv.run ha]
  · match vs with
    | [] => simp [tupV]
    | [v] => simp [tupV]
    | u :: v :: vs => simp [tupV]
  · intro u; rfl
  · intro p t; rfl
theorem F_endR {fn : Func} {R : Ending → World → Prop} {rs : List ResultVar} {vs : List Value} {v : Value} (hr : fn.results = rs.toArray) (hv : Rs P s w rs vs) (e : v = tupV vs) (h : R (.returned v) w) : Fin N [] .ret (bodyPost P fn R) s w :=
  fun _ ha => ⟨ha.defers, _, run_results hr hv ha, by rw [← e]; exact h⟩
end ends
/-- What a load reads, run alone: for results that lie in cells. -/
theorem run_ld {P : Program} {w : World} {t' : TypeId} {A : Addr} {v : Value} (hs : Sc P t') (hc : cl w.heap A = some v) : (loadVar t' A).run P w = .ok v w := by
  rw [← cell_cl] at hc
  simp only [loadVar, Sem.run_bind, hs w, Result.andThen_ok]
  simp [load, Sem.run, hc]
theorem run_ldn {P : Program} {w : World} {t' k : Nat} {b o : Nat} {cs : Array Value} {e : TypeId} {f : Nat × Nat} (vs : List Value) (hs : Ag P t' k) (hk : vs.length = k) (hb : w.heap[b]? = some (.cells cs e f)) (h : (cs.toList.drop o).take k = vs) : (loadVar t' ⟨b, o, none⟩).run P w = .ok (.agg vs.toArray) w := by
  subst hk
  have := run_loadCellsFrom (P := P) (w := w) (A := ⟨b, o, none⟩) vs 0 #[] (fun j u hj => by
    rw [add_at]
    refine cl_bk hb ?_
    have hlt : j < vs.length := (List.getElem?_eq_some_iff.1 hj).1
    rw [← h, List.getElem?_take_of_lt hlt, List.getElem?_drop] at hj
    simpa using hj)
  simp only [loadVar, Sem.run_bind, Sem.run_pure, Result.andThen_ok, hs.agg w, hs.size w, if_true, loadCells, this]
  simp

theorem run_ld0 {P : Program} {w : World} {t' k b : Nat} {vs : List Value} {e : TypeId} {f : Nat × Nat} (hs : Ag P t' k) (hb : w.heap[b]? = some (.cells vs.toArray e f)) (hk : vs.length = k) : (loadVar t' ⟨b, 0, none⟩).run P w = .ok (.agg vs.toArray) w :=
  run_ldn vs hs hk hb (by rw [← hk]; simp)
/-! ### Cells, written over -/
def put : List Value → Nat → List Value → List Value
  | l, 0, [] => l
  | [], _, _ => []
  | _ :: l, 0, v :: vs => v :: put l 0 vs
  | x :: l, n + 1, vs => x :: put l n vs
theorem put_eq : ∀ (l : List Value) (o : Nat) (vs : List Value), o + vs.length ≤ l.length → put l o vs = seg l o vs
  | l, 0, [], _ => by cases l <;> simp [put, seg]
  | [], n, v :: vs, h => by simp at h
  | [], n + 1, [], h => by simp at h
  | x :: l, 0, v :: vs, h => by
    have := put_eq l 0 vs (by simp at h; omega)
    simp only [put, this, seg]; simp
  | x :: l, n + 1, vs, h => by
    have := put_eq l n vs (by simp at h; omega)
    simp only [put, this, seg]
    simp [Nat.add_right_comm]
theorem al_nil : ∀ v ∈ ([] : List Value), v.oneCell' = true := by simp
theorem al_cons {v : Value} {vs : List Value} (h : v.oneCell' = true) (r : ∀ v ∈ vs, v.oneCell' = true) : ∀ u ∈ v :: vs, u.oneCell' = true := fun u hu => by
  rcases List.mem_cons.1 hu with e | e
  · subst e; exact h
  · exact r u e
theorem Sh.one {v : Value} {n : Nat} (h : Sh v n) : v.oneCell' = true := by
  obtain ⟨A, c, rfl⟩ := h.form; rfl
theorem Sh.cells {v : Value} {n : Nat} (h : Sh v n) : v.cells.toList = [v] := by
  obtain ⟨A, c, rfl⟩ := h.form; rfl
theorem int_cells (k : IntKind) (x : Int) : (Value.int k x).cells.toList = [.int k x] := rfl
theorem bool_cells (b : Bool) : (Value.bool b).cells.toList = [.bool b] := rfl
theorem ptr_cells (p : Option Addr) : (Value.pointer p).cells.toList = [.pointer p] := rfl
theorem map_cells (p : Option Nat) : (Value.map p).cells.toList = [.map p] := rfl
theorem nil_cells : (Value.slice none 0 0).cells.toList = [.slice none 0 0] := rfl
section ex
variable {P : Program} {s : Sl} {t : TypeId} {w : World}
/-- A store into a block whose cells are listed. -/
theorem xsb {t' k b o : Nat} {x y : Operand} {u : Value} {l vs : List Value} {e : TypeId} (hs : ∀ w, (sizeOf t').run P w = .ok k w) (hb : w.heap[b]? = some (.cells l.toArray e (0, 0))) (hx : ev s x = some (.pointer (some ⟨b, o, none⟩))) (hy : ev s y = some u) (hu : u.cells.toList = vs)
    (hk : vs.length = k) (hl : Nat.ble (o + k) l.length = true) (h1 : ∀ v ∈ vs, v.oneCell' = true) : ExU P s (.store t' x y) t w fun w' => Lx [b] w w' ∧ w'.heap[b]? = some (.cells (put l o vs).toArray e (0, 0)) := fun ρ hρ d pos af g => by
  have hl' := Nat.le_of_ble_eq_true hl
  subst hu
  obtain ⟨w', h, h2, h3, _⟩ := xstb (P := P) (t := t) (cs' := (put l o u.cells.toList).toArray) hs (by simpa using hk) hb hx hy (by simpa using hl') h1 (by rw [put_eq _ _ _ (by rw [hk]; exact hl')]) ρ hρ d pos af g
  exact ⟨w', h, h2, h3⟩
/-- A value built of parts. -/
def BD (P : Program) (t' : Nat) (vs : List (Nat × Value)) (cs : Array Value) : Prop := ∀ w, (Instr.build t' vs.toArray).run P w = .ok (.agg cs) w
theorem xbd {t' : Nat} {parts : List (Nat × Operand)} {vs : List (Nat × Value)} {cs : Array Value} (hp : evp s parts = some vs) (hb : BD P t' vs cs) : Ex P s (.build t' parts.toArray) t (.agg cs) := fun w ρ hρ d pos af g => by
  have := hb w
  rw [← evp_map hρ hp] at this
  simp only [execOp, List.map_toArray, Sem.run_bind, this, Result.andThen_ok, Sem.run_pure]
/-- The zero value's cells. -/
def Zr (P : Program) (t' : TypeId) (l : List Value) : Prop := ∃ z, (∀ w, (zeroValue t').run P w = .ok z w) ∧ z.cells = l.toArray
theorem Zr.of {t' : TypeId} {l : List Value} {z : Value} (h : ∀ w, (zeroValue t').run P w = .ok z w) (hc : z.cells = l.toArray) : Zr P t' l := ⟨z, h, hc⟩
/-- A new variable. -/
theorem xal {t' : TypeId} {l : List Value} (hz : Zr P t' l) : ExT P s (.alloc t') t w fun v w' => ∃ b, v = .pointer (some ⟨b, 0, none⟩) ∧ Le w w' ∧ w'.heap[b]? = some (.cells l.toArray t' (0, 0)) ∧ b = w.heap.size := fun ρ hρ d pos af g => by
  obtain ⟨z, hz, hc⟩ := hz
  rw [← hc]
  refine ⟨.pointer (some ⟨w.heap.size, 0, none⟩), w.alloc (.cells z.cells t'), ?_, _, rfl, Le.alloc w _, heap_alloc_self w _, rfl⟩
  simp only [execOp, Instr.alloc, hz w, newVar, newRow, newObj, Sem.run_bind, Result.andThen_ok]
  rfl
theorem xext {x : Operand} {i : Nat} {vs : Array Value} {v : Value} (hx : ev s x = some (.tuple vs)) (hv : vs[i]? = some v) : Ex P s (.extract x i) t v := fun w ρ hρ d pos af g => by
  simp [execOp, hρ x _ hx, Instr.extract, hv]
/-- An element of an array's value. -/
theorem xidx {t' e n k : Nat} {x i : Operand} {cs : Array Value} {kd : IntKind} {z : Int} {vs : List Value} (j : Nat) (ht : P.underlying t' = some (.array n e)) (ha : Ag P e k) (hx : ev s x = some (.agg cs)) (hi : ev s i = some (.int kd z)) (hz : z = j) (hj : j < n) (hv : (cs.extract (j * k) (j * k + k)).toList = vs) :
    Ex P s (.index t' x i) t (.agg vs.toArray) := fun w ρ hρ d pos af g => by
  subst hz
  have h1 : (0 : Int) ≤ (j : Int) ∧ (j : Int) < (n : Int) := by omega
  simp only [execOp, hρ x _ hx, hρ i _ hi, Instr.index, asIntOf, Sem.run_bind, Sem.run_pure, Result.andThen_ok, run_underlying ht, h1, and_self, if_true, part, ha.agg w, ha.size w]
  have e : cs.extract (j * k) (j * k + k) = vs.toArray := by rw [← hv, Array.toArray_toList]
  simp [e]
theorem xidx1 {t' e n : Nat} {x i : Operand} {cs : Array Value} {kd : IntKind} {z : Int} {v : Value} (j : Nat) (ht : P.underlying t' = some (.array n e)) (ha : Sc P e) (h1' : ∀ w, (sizeOf e).run P w = .ok 1 w) (hx : ev s x = some (.agg cs)) (hi : ev s i = some (.int kd z)) (hz : z = j) (hj : j < n) (hv : cs[j]? = some v) :
    Ex P s (.index t' x i) t v := fun w ρ hρ d pos af g => by
  subst hz
  have h1 : (0 : Int) ≤ (j : Int) ∧ (j : Int) < (n : Int) := by omega
  simp only [execOp, hρ x _ hx, hρ i _ hi, Instr.index, asIntOf, Sem.run_bind, Sem.run_pure, Result.andThen_ok, run_underlying ht, h1, and_self, if_true, part, ha w, h1' w]
  simp [hv]
/-- An element's address in an array that lies in a block. -/
theorem xia {t' e n k b o : Nat} {x i : Operand} {kd : IntKind} {z : Int} (j : Nat) (ht : P.underlying t' = some (.array n e)) (hk : ∀ w, (sizeOf e).run P w = .ok k w) (hx : ev s x = some (.pointer (some ⟨b, o, none⟩))) (hi : ev s i = some (.int kd z)) (hz : z = j) (hj : j < n) :
    Ex P s (.indexAddr t' x i) t (.pointer (some ⟨b, o + j * k, none⟩)) := fun w ρ hρ d pos af g => by
  subst hz
  have h1 : (0 : Int) ≤ (j : Int) ∧ (j : Int) < (n : Int) := by omega
  simp only [execOp, hρ x _ hx, hρ i _ hi, Instr.indexAt, Instr.sureAddr, asIntOf, Sem.run_bind, Sem.run_pure, Result.andThen_ok, run_underlying ht, h1, and_self, if_true, hk]
  simp [add_at]
theorem xcv {a b : TypeId} {x : Operand} {k k' : IntKind} {n : Int} {da : TypeDesc} (ha : P.underlying a = some da) (hb : P.underlying b = some (.int k')) (hx : ev s x = some (.int k n)) : Ex P s (.convert a b x) t (.int k' (k'.wrap n)) := fun w ρ hρ d pos af g => by
  simp only [execOp, hρ x _ hx, convert, Sem.run_bind, run_underlying ha, run_underlying hb, Result.andThen_ok, Conv.intToInt, Sem.run_pure]
theorem xcvn {a b : TypeId} {x : Operand} {k k' : IntKind} {n m : Int} {da : TypeDesc} (ha : P.underlying a = some da) (hb : P.underlying b = some (.int k')) (hw : k'.wrap n = m) (hx : ev s x = some (.int k n)) : Ex P s (.convert a b x) t (.int k' m) := by
  subst hw; exact xcv ha hb hx
def bitI (op : BinOp) (k : IntKind) (x y : Int) : Int :=
  let a := BitVec.ofInt k.bits x
  let b := BitVec.ofInt k.bits y
  match op with
  | .and => k.wrap (a &&& b).toNat
  | .or => k.wrap (a ||| b).toNat
  | .xor => k.wrap (a ^^^ b).toNat
  | _ => k.wrap (a &&& ~~~b).toNat
theorem xmuln {x y : Operand} {a b : Int} {xt yt : TypeId} (hx : ev s x = some (.int .i64 a)) (hy : ev s y = some (.int .i64 b)) (h : -9223372036854775808 ≤ a * b ∧ a * b ≤ 9223372036854775807) : Ex P s (.binOp .mul xt x y yt) t (.int .i64 (a * b)) := by
  have := xmul (P := P) (t := t) (xt := xt) (yt := yt) hx hy
  rwa [IntWalk.i64_in _ h] at this
def shlI (k : IntKind) (a b : Int) : Int := k.wrap (a * 2 ^ min b.toNat k.bits)
def shrI (k : IntKind) (a b : Int) : Int := a.fdiv (2 ^ min b.toNat k.bits)
theorem xand {k : IntKind} {x y : Operand} {a b : Int} {xt yt : TypeId} (hx : ev s x = some (.int k a)) (hy : ev s y = some (.int k b)) : Ex P s (.binOp .and xt x y yt) t (.int k (bitI .and k a b)) := fun w ρ hρ d pos af g => by
  simp [execOp, hρ x _ hx, hρ y _ hy, eqGuard, binOp, Op.intBits, bitI]
theorem xor {k : IntKind} {x y : Operand} {a b : Int} {xt yt : TypeId} (hx : ev s x = some (.int k a)) (hy : ev s y = some (.int k b)) : Ex P s (.binOp .or xt x y yt) t (.int k (bitI .or k a b)) := fun w ρ hρ d pos af g => by
  simp [execOp, hρ x _ hx, hρ y _ hy, eqGuard, binOp, Op.intBits, bitI]
theorem xxor {k : IntKind} {x y : Operand} {a b : Int} {xt yt : TypeId} (hx : ev s x = some (.int k a)) (hy : ev s y = some (.int k b)) : Ex P s (.binOp .xor xt x y yt) t (.int k (bitI .xor k a b)) := fun w ρ hρ d pos af g => by
  simp [execOp, hρ x _ hx, hρ y _ hy, eqGuard, binOp, Op.intBits, bitI]
theorem xshl {k k' : IntKind} {x y : Operand} {a b : Int} {xt yt : TypeId} (hx : ev s x = some (.int k a)) (hy : ev s y = some (.int k' b)) (hb : 0 ≤ b) : Ex P s (.binOp .shl xt x y yt) t (.int k (shlI k a b)) := fun w ρ hρ d pos af g => by
  have : ¬ b < 0 := by omega
  simp [execOp, hρ x _ hx, hρ y _ hy, eqGuard, binOp, Op.shift, this, shlI, shrI]
theorem xshr {k k' : IntKind} {x y : Operand} {a b : Int} {xt yt : TypeId} (hx : ev s x = some (.int k a)) (hy : ev s y = some (.int k' b)) (hb : 0 ≤ b) : Ex P s (.binOp .shr xt x y yt) t (.int k (shrI k a b)) := fun w ρ hρ d pos af g => by
  have : ¬ b < 0 := by omega
  simp [execOp, hρ x _ hx, hρ y _ hy, eqGuard, binOp, Op.shift, this, shlI, shrI]
theorem xquo {k : IntKind} {x y : Operand} {a b : Int} {xt yt : TypeId} (hx : ev s x = some (.int k a)) (hy : ev s y = some (.int k b)) (hb : b ≠ 0) : Ex P s (.binOp .quo xt x y yt) t (.int k (k.wrap (a.tdiv b))) := fun w ρ hρ d pos af g => by
  simp [execOp, hρ x _ hx, hρ y _ hy, eqGuard, binOp, Op.intDiv, hb]
theorem xrem {k : IntKind} {x y : Operand} {a b : Int} {xt yt : TypeId} (hx : ev s x = some (.int k a)) (hy : ev s y = some (.int k b)) (hb : b ≠ 0) : Ex P s (.binOp .rem xt x y yt) t (.int k (a.tmod b)) := fun w ρ hρ d pos af g => by
  simp [execOp, hρ x _ hx, hρ y _ hy, eqGuard, binOp, Op.intDiv, hb]
theorem xmax {k : IntKind} {x y : Operand} {a b : Int} {ts : Array TypeId} (hx : ev s x = some (.int k a)) (hy : ev s y = some (.int k b)) : Ex P s (.call ⟨.builtin .max, #[x, y], ts⟩) t (.int k (if a < b then b else a)) := fun w ρ hρ d pos af g => by
  simp [execOp, resolve, invoke, builtin, Builtin.max_, Builtin.max2, hρ x _ hx, hρ y _ hy]
theorem xmin {k : IntKind} {x y : Operand} {a b : Int} {ts : Array TypeId} (hx : ev s x = some (.int k a)) (hy : ev s y = some (.int k b)) : Ex P s (.call ⟨.builtin .min, #[x, y], ts⟩) t (.int k (if b < a then b else a)) := fun w ρ hρ d pos af g => by
  simp [execOp, resolve, invoke, builtin, Builtin.min_, Builtin.min2, hρ x _ hx, hρ y _ hy]
theorem xnc {x : Operand} {A : Addr} (hx : ev s x = some (.pointer (some A))) : Ex P s (.nilCheck x) t (.pointer (some A)) := fun w ρ hρ d pos af g => by
  simp [execOp, hρ x _ hx]
theorem xpn {t' : TypeId} {x y : Operand} {p : Option Addr} {yt : TypeId} (ht : P.underlying t' = some (.pointer (P.pointee t'))) (hx : ev s x = some (.pointer p)) (hy : ev s y = some (.pointer none)) : Ex P s (.binOp .eql t' x y yt) t (.bool p.isNone) := fun w ρ hρ d pos af g => by
  have hg : (eqGuard .eql t' x y (.pointer p) (.pointer none)).run P w = .ok () w := by simp [eqGuard]
  have he : (binOp .eql t' (.pointer p) (.pointer none)).run P w = .ok (.bool p.isNone) w := by
    have := run_equalIn_pointer_nil (P := P) w 9999 t' p ht
    simp only [binOp, Op.equal, Op.maxDepth, Sem.run_bind, this, Result.andThen_ok, Sem.run_pure]
  simp only [execOp, hρ x _ hx, hρ y _ hy, Sem.run_bind, hg, he, Result.andThen_ok, Sem.run_pure]
theorem xpnn {t' : TypeId} {x y : Operand} {p : Option Addr} {yt : TypeId} (ht : P.underlying t' = some (.pointer (P.pointee t'))) (hx : ev s x = some (.pointer p)) (hy : ev s y = some (.pointer none)) : Ex P s (.binOp .neq t' x y yt) t (.bool !p.isNone) := fun w ρ hρ d pos af g => by
  have hg : (eqGuard .neq t' x y (.pointer p) (.pointer none)).run P w = .ok () w := by simp [eqGuard]
  have he : (binOp .neq t' (.pointer p) (.pointer none)).run P w = .ok (.bool !p.isNone) w := by
    have := run_equalIn_pointer_nil (P := P) w 9999 t' p ht
    simp only [binOp, Op.equal, Op.maxDepth, Sem.run_bind, this, Result.andThen_ok, Sem.run_pure]
  simp only [execOp, hρ x _ hx, hρ y _ hy, Sem.run_bind, hg, he, Result.andThen_ok, Sem.run_pure]
theorem xbeq {t' : TypeId} {x y : Operand} {a b : Bool} {yt : TypeId} (ht : P.underlying t' = some .bool) (hx : ev s x = some (.bool a)) (hy : ev s y = some (.bool b)) : Ex P s (.binOp .eql t' x y yt) t (.bool (decide (a = b))) := fun w ρ hρ d pos af g => by
  have hg : (eqGuard .eql t' x y (.bool a) (.bool b)).run P w = .ok () w := by simp [eqGuard]
  have he : (binOp .eql t' (.bool a) (.bool b)).run P w = .ok (.bool (decide (a = b))) w := by
    have := run_equalIn_bool (P := P) w 9999 t' a b ht
    simp only [binOp, Op.equal, Op.maxDepth, Sem.run_bind, this, Result.andThen_ok, Sem.run_pure]
    cases a <;> cases b <;> rfl
  simp only [execOp, hρ x _ hx, hρ y _ hy, Sem.run_bind, hg, he, Result.andThen_ok, Sem.run_pure]
theorem xbne {t' : TypeId} {x y : Operand} {a b : Bool} {yt : TypeId} (ht : P.underlying t' = some .bool) (hx : ev s x = some (.bool a)) (hy : ev s y = some (.bool b)) : Ex P s (.binOp .neq t' x y yt) t (.bool (!decide (a = b))) := fun w ρ hρ d pos af g => by
  have hg : (eqGuard .neq t' x y (.bool a) (.bool b)).run P w = .ok () w := by simp [eqGuard]
  have he : (binOp .neq t' (.bool a) (.bool b)).run P w = .ok (.bool (!decide (a = b))) w := by
    have := run_equalIn_bool (P := P) w 9999 t' a b ht
    simp only [binOp, Op.equal, Op.maxDepth, Sem.run_bind, this, Result.andThen_ok, Sem.run_pure]
    cases a <;> cases b <;> rfl
  simp only [execOp, hρ x _ hx, hρ y _ hy, Sem.run_bind, hg, he, Result.andThen_ok, Sem.run_pure]
end ex
end Go.Proofs.Ythmhbonhagjnnaa
