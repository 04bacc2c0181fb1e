/- Memory: blocks, slices that are read, rows of one's own; loads, stores, appends. -/
import Derived.Test.YthmhbonhagjnnaaOps
import Derived.Maps.AppendAt
import Derived.Deep.AppendLies
import Derived.Laws.Cover3
namespace Go.Proofs.Ythmhbonhagjnnaa
open Go.RowKit
set_option linter.unusedVariables false
set_option linter.unusedSimpArgs false

abbrev Heap := Array Obj
def cl (H : Heap) (A : Addr) : Option Value :=
  match H[A.block]? with
  | some (.cells c _ _) => if A.spot.isSome then none else c[A.off]?
  | _ => none
theorem cell_cl (w : World) (A : Addr) : w.cell? A = cl w.heap A := rfl
theorem cl_bk {H : Heap} {b : Nat} {cs : Array Value} {e : TypeId} {f : Nat × Nat} {o : Nat} {v : Value} (hb : H[b]? = some (.cells cs e f)) (ho : cs[o]? = some v) : cl H ⟨b, o, none⟩ = some v := by
  simp [cl, hb, ho]
theorem cl_lt {H : Heap} {A : Addr} {v : Value} (h : cl H A = some v) : A.block < H.size := by
  unfold cl at h
  cases hb : H[A.block]? with
  | none => rw [hb] at h; cases h
  | some o => exact (Array.getElem?_eq_some_iff.1 hb).1

theorem Le.refl (w : World) : Le w w := ⟨Below.refl _ _, Nat.le_refl _⟩
theorem Le.size {w w' : World} (h : Le w w') : w.heap.size ≤ w'.heap.size := h.bel.size
theorem Le.trans {a b c : World} (h : Le a b) (k : Le b c) : Le a c := ⟨Below.trans h.bel (Below.mono k.bel h.size), Nat.le_trans h.dr k.dr⟩
theorem Le.drew (w : World) : Le w w.drew := ⟨(Below.refl _ _).drew, Nat.le_succ _⟩
theorem Le.drew' {a w : World} (h : Le a w) : Le a w.drew := h.trans (Le.drew w)
theorem Le.bk {w w' : World} (h : Le w w') {b : Nat} {o : Obj} (hb : w.heap[b]? = some o) : w'.heap[b]? = some o := by
  rw [h.bel.block b (Array.getElem?_eq_some_iff.1 hb).1]; exact hb
theorem Le.cl {w w' : World} (h : Le w w') {A : Addr} {v : Value} (hc : cl w.heap A = some v) : cl w'.heap A = some v := by
  have := Below.cell h.bel (p := A) (cl_lt hc)
  rw [cell_cl, cell_cl] at this
  rw [this]; exact hc
theorem Le.alloc (w : World) (o : Obj) : Le w (w.alloc o) := ⟨(Below.refl _ _).alloc (Nat.le_refl _) _, Nat.le_refl _⟩
/-- No run takes a draw back. -/
theorem ask_drawn {α : Type} : ∀ (a : Ask α) (w : World), w.drawn ≤ (w.ask a).2.drawn := by
  intro a
  induction a with
  | done a => intro w; simp [World.ask]
  | ask what range k ih =>
    intro w
    unfold World.ask
    simp only
    split
    · exact ih 0 w
    · have := ih ((Question.extern what range).cut (w.tape w.drawn (Question.extern what range))) { w with drawn := w.drawn + 1 }
      exact Nat.le_trans (Nat.le_succ _) this
def Result.world {α : Type} : Result α → World
  | .ok _ w => w
  | .halt _ w => w
theorem sys_drawn (w : World) (c : Sys) : w.drawn ≤ (w.sys c).2.drawn := by
  have h := ask_drawn (Kernel.perform c w.os) w
  unfold World.sys
  split
  · exact Nat.le_refl _
  · rename_i r os w' heq
    rw [heq] at h
    exact h
def Okd (d : Nat) (x : Except String (World × List Addr)) : Prop := ∀ r, x = .ok r → r.1.drawn = d
theorem okd_bind {d : Nat} {β : Type} {x : Except String β} {f : β → Except String (World × List Addr)} (h : ∀ a, Okd d (f a)) : Okd d (x >>= f) := by
  cases x with
  | error e => intro r h; cases h
  | ok a => exact h a
theorem okd_err {d : Nat} {e : String} : Okd d (.error e) := fun r h => by cases h
theorem okd_ok {d : Nat} {w : World} {l : List Addr} (h : w.drawn = d) : Okd d (.ok (w, l)) := fun r h' => by cases h'; exact h
theorem viewStore_drawn {P : Program} {w : World} {at_ : Addr} {u : TypeId} {k : Addr} {v : Value} {m : Bool} {r : World × List Addr} (h : w.viewStore P at_ u k v m = .ok r) : r.1.drawn = w.drawn := by
  refine (?_ : Okd w.drawn (w.viewStore P at_ u k v m)) r h
  unfold World.viewStore
  repeat (first
    | exact okd_ok rfl
    | exact okd_err
    | (refine okd_bind fun _ => ?_)
    | split
    | dsimp only)
theorem run_drawn {α : Type} (P : Program) : ∀ (x : Sem α) (w : World), w.drawn ≤ (Result.world (x.run P w)).drawn := by
  intro x
  induction x with
  | pure a => intro w; simp [Sem.run, Result.world]
  | load m a k ih =>
    intro w; unfold Sem.run
    split
    · exact ih _ w
    · split
      · exact ih _ w
      · exact Nat.le_refl _
  | store m a v k ih =>
    intro w
    have h2 : ∀ w : World, w.drawn ≤ (Result.world (match w.cell? a with
      | some _ => if w.frozen? a then (.halt (.unsupported (.unsafePointer "a write to bytes that a string shares")) w : Result α) else k.run P (w.setCell a v)
      | none => match w.farStore P a v (m == .atomic) with
        | .ok (w, _) => k.run P w
        | .error h => .halt h w)).drawn := fun w => by
      split
      · split
        · exact Nat.le_refl _
        · exact ih (w.setCell a v)
      · split
        · rename_i w1 x1 heq
          refine Nat.le_trans ?_ (ih w1)
          unfold World.farStore at heq
          split at heq
          · split at heq
            · rename_i r hr
              cases heq
              exact Nat.le_of_eq (viewStore_drawn hr).symm
            · cases heq
          · cases heq
        · exact Nat.le_refl _
    cases v <;> first | exact h2 w | exact Nat.le_refl _
  | new o k ih => intro w; unfold Sem.run; exact ih w.heap.size { w with heap := w.heap.push o }
  | shape r k ih => intro w; unfold Sem.run; exact ih _ w
  | freeze a n k ih =>
    intro w; unfold Sem.run
    have : (w.freeze a n).drawn = w.drawn := by unfold World.freeze; split <;> rfl
    rw [← this]; exact ih _
  | frozen a k ih => intro w; unfold Sem.run; exact ih _ w
  | getObj r k ih =>
    intro w; unfold Sem.run
    split
    · exact Nat.le_refl _
    · exact ih _ w
    · exact Nat.le_refl _
  | setObj r o k ih =>
    intro w; unfold Sem.run
    split
    · exact Nat.le_refl _
    · exact ih { w with heap := w.heap.setIfInBounds r o }
    · exact Nat.le_refl _
  | choose q k ih =>
    intro w; unfold Sem.run
    split
    · exact ih _ w
    · have := ih (q.cut (w.tape w.drawn q)) { w with drawn := w.drawn + 1 }
      exact Nat.le_trans (Nat.le_succ _) this
  | sys c k ih => intro w; unfold Sem.run; exact Nat.le_trans (sys_drawn w c) (ih _ _)
  | program k ih => intro w; unfold Sem.run; exact ih _ w
  | mark m k ih => intro w; unfold Sem.run; exact ih w
  | halt h => intro w; simp [Sem.run, Result.world]

/-! ### Slices -/
def blkOf : Value → Nat
  | .slice (some a) _ _ => a.block
  | _ => 0
def offOf : Value → Nat
  | .slice (some a) _ _ => a.off
  | _ => 0
/-- A slice of n elements. -/
def Sh (v : Value) (n : Nat) : Prop := ∃ A c, v = .slice A n c ∧ n ≤ c ∧ c ≤ maxLen ∧ (∀ a, A = some a → 0 < c → a.spot = none) ∧ (A = none → c = 0)
theorem Sh.pos {v : Value} {n : Nat} (h : Sh v n) (hn : 0 < n) : ∃ c, v = .slice (some ⟨blkOf v, offOf v, none⟩) n c := by
  obtain ⟨A, c, rfl, h1, h2, h3, h4⟩ := h
  cases A with
  | none => have := h4 rfl; omega
  | some a => exact ⟨c, by have := h3 a rfl (by omega); cases a; simp_all [blkOf, offOf]⟩
theorem Sh.form {v : Value} {n : Nat} (h : Sh v n) : ∃ A c, v = .slice A n c := by
  obtain ⟨A, c, rfl, _⟩ := h; exact ⟨A, c, rfl⟩
theorem Sh.le {v : Value} {n : Nat} (h : Sh v n) : n ≤ 9223372036854775807 := by
  obtain ⟨A, c, rfl, h1, h2, _⟩ := h; unfold maxLen at h2; omega
theorem Sh.nil : Sh (.slice none 0 0) 0 := ⟨none, 0, rfl, by omega, by unfold maxLen; omega, by simp, by simp⟩
/-- A slice whose cells hold xs. -/
structure Rd (H : Heap) (k : Nat) (v : Value) (n : Nat) (xs : List Value) : Prop where
  sh : Sh v n
  len : xs.length = n * k
  at_ : ∀ j u, xs[j]? = some u → cl H ⟨blkOf v, offOf v + j, none⟩ = some u
theorem Rd.le {w w' : World} (h : Le w w') {k : Nat} {v : Value} {n : Nat} {xs : List Value} (hr : Rd w.heap k v n xs) : Rd w'.heap k v n xs := ⟨hr.sh, hr.len, fun j u hj => h.cl (hr.at_ j u hj)⟩

/-- How an element lies in cells. -/
structure Enc (α : Type) where
  k : Nat
  f : α → List Value
  len : ∀ x, (f x).length = k
  one : ∀ x, ∀ u ∈ f x, u.oneCell' = true
def RdE {α : Type} (H : Heap) (E : Enc α) (v : Value) (l : List α) : Prop := Rd H E.k v l.length (l.flatMap E.f)
theorem flat_len {α : Type} (E : Enc α) (l : List α) : (l.flatMap E.f).length = l.length * E.k := by
  induction l with
  | nil => simp
  | cons x l ih => simp [List.flatMap_cons, E.len, ih, Nat.add_mul, Nat.add_comm]
theorem flat_at {α : Type} (E : Enc α) : ∀ (l : List α) (j : Nat) (x : α) (f : Nat) (u : Value), l[j]? = some x → (E.f x)[f]? = some u → (l.flatMap E.f)[j * E.k + f]? = some u
  | [], j, x, f, u, h, _ => by simp at h
  | y :: l, 0, x, f, u, h, hf => by
    simp at h; subst h
    have : f < (E.f y).length := (List.getElem?_eq_some_iff.1 hf).1
    rw [List.flatMap_cons, Nat.zero_mul, Nat.zero_add, List.getElem?_append_left this, hf]
  | y :: l, j + 1, x, f, u, h, hf => by
    have := flat_at E l j x f u (by simpa using h) hf
    rw [List.flatMap_cons, List.getElem?_append_right (by rw [E.len, Nat.add_mul]; omega), E.len, Nat.add_mul]
    rw [show j * E.k + 1 * E.k + f - E.k = j * E.k + f by omega]; exact this
theorem RdE.cl {α : Type} {H : Heap} {E : Enc α} {v : Value} {l : List α} (h : RdE H E v l) {j : Nat} {x : α} {f : Nat} {u : Value} (hj : l[j]? = some x) (hf : (E.f x)[f]? = some u) : cl H ⟨blkOf v, offOf v + j * E.k + f, none⟩ = some u := by
  have := h.at_ _ _ (flat_at E l j x f u hj hf)
  rwa [← Nat.add_assoc] at this
theorem RdE.le {α : Type} {w w' : World} (h : Le w w') {E : Enc α} {v : Value} {l : List α} (hr : RdE w.heap E v l) : RdE w'.heap E v l := Rd.le h hr
theorem RdE.nil {α : Type} (H : Heap) (E : Enc α) : RdE H E (.slice none 0 0) [] := ⟨Sh.nil, by simp, by simp⟩
theorem RdE.of_own {α : Type} {w : World} {E : Enc α} {v : Value} {l : List α} {base : Nat} {e : TypeId} (h : w.ownsRow base e E.k v l.length (l.flatMap E.f)) : RdE w.heap E v l := by
  refine ⟨?_, flat_len E l, fun j u hj => ?_⟩
  · rcases h.2 with ⟨rfl, h0⟩ | ⟨g, cap, cur, rfl, _, _, h1, h2, _⟩
    · rw [h0]; exact Sh.nil
    · exact ⟨_, cap, rfl, h1, h2, by simp, by simp⟩
  · rcases h.2 with ⟨rfl, h0⟩ | ⟨g, cap, cur, rfl, _, hh, _, _, hs, ht⟩
    · have : l = [] := List.eq_nil_of_length_eq_zero h0
      subst this; simp at hj
    · have hlt : j < (l.flatMap E.f).length := (List.getElem?_eq_some_iff.1 hj).1
      rw [flat_len] at hlt
      refine cl_bk (hb := by simpa [blkOf] using hh) ?_
      simp only [offOf, Nat.zero_add]
      rw [← ht, List.getElem?_take_of_lt hlt] at hj
      simpa using hj

/-- All stood but what the blocks S hold. -/
structure Lx (S : List Nat) (w w' : World) : Prop where
  os : w'.os = w.os
  tape : w'.tape = w.tape
  out : w'.output = w.output
  size : w.heap.size ≤ w'.heap.size
  dr : w.drawn ≤ w'.drawn
  bks : ∀ k, k < w.heap.size → k ∉ S → w'.heap[k]? = w.heap[k]?
theorem Le.lx {S : List Nat} {w w' : World} (h : Le w w') : Lx S w w' := ⟨h.bel.os, h.bel.tape, h.bel.output, h.bel.size, h.dr, fun k hk _ => h.bel.block k hk⟩
theorem Lx.mono {S S' : List Nat} {w w' : World} (h : Lx S w w') (hs : ∀ k ∈ S, k ∈ S') : Lx S' w w' := ⟨h.os, h.tape, h.out, h.size, h.dr, fun k hk hn => h.bks k hk fun hm => hn (hs k hm)⟩
theorem Lx.trans {S : List Nat} {a b c : World} (h : Lx S a b) (k : Lx S b c) : Lx S a c :=
  ⟨k.os.trans h.os, k.tape.trans h.tape, k.out.trans h.out, Nat.le_trans h.size k.size, Nat.le_trans h.dr k.dr, fun i hi hn => (k.bks i (Nat.lt_of_lt_of_le hi h.size) hn).trans (h.bks i hi hn)⟩
theorem Lx.le {S : List Nat} {a b c : World} (h : Lx S b c) (k : Le a b) (hs : ∀ i ∈ S, a.heap.size ≤ i) : Le a c :=
  ⟨⟨h.os.trans k.bel.os, h.tape.trans k.bel.tape, h.out.trans k.bel.output, Nat.le_trans k.size h.size, fun i hi => (h.bks i (Nat.lt_of_lt_of_le hi k.size) fun hm => by have := hs i hm; omega).trans (k.bel.block i hi)⟩, Nat.le_trans k.dr h.dr⟩
/-- What is changed is no older than what was there at the start. -/
theorem Lx.drop {S S' : List Nat} {a b c : World} (h : Lx S b c) (k : Lx S' a b) (hs : ∀ i ∈ S, a.heap.size ≤ i ∨ i ∈ S') : Lx S' a c :=
  ⟨h.os.trans k.os, h.tape.trans k.tape, h.out.trans k.out, Nat.le_trans k.size h.size, Nat.le_trans k.dr h.dr, fun i hi hn => (h.bks i (Nat.lt_of_lt_of_le hi k.size) fun hm => by rcases hs i hm with h1 | h1 <;> first | omega | exact hn h1).trans (k.bks i hi hn)⟩
theorem Lx.bk {S : List Nat} {w w' : World} (h : Lx S w w') {b : Nat} {o : Obj} (hn : b ∉ S) (hb : w.heap[b]? = some o) : w'.heap[b]? = some o := by
  rw [h.bks b (Array.getElem?_eq_some_iff.1 hb).1 hn]; exact hb
theorem Lx.cl {S : List Nat} {w w' : World} (h : Lx S w w') {A : Addr} {v : Value} (hc : cl w.heap A = some v) (hn : A.block ∉ S) : cl w'.heap A = some v := by
  unfold Ythmhbonhagjnnaa.cl at *
  cases hb : w.heap[A.block]? with
  | none => rw [hb] at hc; cases hc
  | some o => rw [h.bk hn hb]; rw [hb] at hc; exact hc
/-- How append turns the world: the row stays where it is, or lies in a new block. -/
structure Apd (v v' : Value) (w w' : World) : Prop where
  lx : Lx v.ownBlock.toList w w'
  blk : v'.ownBlock = v.ownBlock ∨ v'.ownBlock = some w.heap.size
theorem Lx.grown {w w' : World} {b : Option Nat} (h : w.grownBy w' b) (hd : w.drawn ≤ w'.drawn) : Lx b.toList w w' :=
  ⟨h.os, h.tape, h.output, h.size, hd, fun k hk hn => h.block k hk fun e => hn (by rw [← e]; simp)⟩
/-! ### Types -/
def Sc (P : Program) (t : TypeId) : Prop := ∀ w, (isAgg t).run P w = .ok false w
structure Ag (P : Program) (t : TypeId) (k : Nat) : Prop where
  agg : ∀ w, (isAgg t).run P w = .ok true w
  size : ∀ w, (sizeOf t).run P w = .ok k w
def FA (P : Program) (t : TypeId) (f k : Nat) : Prop := ∀ b o w, (Instr.fieldAt t (.pointer (some ⟨b, o, none⟩)) f).run P w = .ok (.pointer (some ⟨b, o + k, none⟩)) w

section ex
variable {P : Program} {s : Sl} {t : TypeId} {w : World}
theorem xfa {t' f k b o : Nat} {x : Operand} (hf : FA P t' f k) (hx : ev s x = some (.pointer (some ⟨b, o, none⟩))) : Ex P s (.fieldAddr t' x f) t (.pointer (some ⟨b, o + k, none⟩)) := fun w ρ hρ d pos af g => by
  simp [execOp, hρ x _ hx, hf b o w]
/-- A slice's element. -/
theorem xix {t' e k : Nat} {x i : Operand} {v : Value} {n : Nat} {kd : IntKind} {z : Int} (j : Nat) (ht : P.underlying t' = some (.slice e)) (hk : ∀ w, (sizeOf e).run P w = .ok k w) (hs : Sh v n) (hx : ev s x = some v) (hi : ev s i = some (.int kd z)) (hz : z = j) (hj : j < n) :
    Ex P s (.indexAddr t' x i) t (.pointer (some ⟨blkOf v, offOf v + j * k, none⟩)) := fun w ρ hρ d pos af g => by
  obtain ⟨c, hv⟩ := hs.pos (by omega)
  have hx' := hρ x _ hx
  rw [hv] at hx'
  subst hz
  have h1 : (0 : Int) ≤ (j : Int) ∧ (j : Int) < (n : Int) := by omega
  simp only [execOp, hx', hρ i _ hi, Instr.indexAt, asIntOf, Sem.run_bind, Sem.run_pure, Result.andThen_ok, run_underlying ht, h1, and_self, if_true, hk]
  simp [Addr.add]
theorem xld {t' : TypeId} {x : Operand} {A : Addr} {v : Value} (hs : Sc P t') (hx : ev s x = some (.pointer (some A))) (hc : cl w.heap A = some v) : ExW P s (.load t' x) t v w := fun ρ hρ d pos af g => by
  simp only [execOp, hρ x _ hx, Instr.loadAt, Instr.sureAddr, loadVar, Sem.run_bind, Sem.run_pure, Result.andThen_ok, hs w]
  rw [← cell_cl] at hc
  simp [load, Sem.run, hc]
theorem run_loadCellsFrom {A : Addr} : ∀ (vs : List Value) (i : Nat) (acc : Array Value), (∀ j u, vs[j]? = some u → cl w.heap (A.add (i + j)) = some u) →
    (loadCellsFrom A i vs.length acc).run P w = .ok (acc ++ vs.toArray) w
  | [], i, acc, _ => by simp [loadCellsFrom]
  | v :: vs, i, acc, h => by
    have h0 := h 0 v rfl
    simp only [Nat.add_zero] at h0
    rw [← cell_cl] at h0
    have ih := run_loadCellsFrom vs (i + 1) (acc.push v) fun j u hj => by
      have := h (j + 1) u (by simpa using hj)
      rwa [show i + 1 + j = i + (j + 1) by omega]
    simp only [List.length_cons, loadCellsFrom, Sem.run_bind]
    simp only [load, Sem.run, h0, Result.andThen_ok]
    rw [ih]
    simp
theorem xldn {t' k : Nat} {x : Operand} {A : Addr} (vs : List Value) (hs : Ag P t' k) (hk : vs.length = k) (hx : ev s x = some (.pointer (some A))) (hc : ∀ j u, vs[j]? = some u → cl w.heap (A.add j) = some u) : ExW P s (.load t' x) t (.agg vs.toArray) w := fun ρ hρ d pos af g => by
  subst hk
  have := run_loadCellsFrom (P := P) (w := w) (A := A) vs 0 #[] (by simpa using hc)
  simp only [execOp, hρ x _ hx, Instr.loadAt, Instr.sureAddr, loadVar, Sem.run_bind, Sem.run_pure, Result.andThen_ok, hs.agg w, hs.size w, if_true, loadCells, this]
  simp
theorem add_at (b o j : Nat) : (⟨b, o, none⟩ : Addr).add j = ⟨b, o + j, none⟩ := by unfold Addr.add; split <;> simp_all
/-- A whole element of a slice. -/
theorem xle {α : Type} {E : Enc α} {t' : TypeId} {x : Operand} {v : Value} {l : List α} {j : Nat} {y : α} (hs : Ag P t' E.k) (hr : RdE w.heap E v l) (hj : l[j]? = some y) (hx : ev s x = some (.pointer (some ⟨blkOf v, offOf v + j * E.k, none⟩))) :
    ExW P s (.load t' x) t (.agg (E.f y).toArray) w :=
  xldn _ hs (E.len y) hx fun i u hi => by rw [add_at]; exact hr.cl hj hi
theorem xle1 {α : Type} {E : Enc α} {t' : TypeId} {x : Operand} {v u : Value} {l : List α} {j : Nat} {y : α} (hs : Sc P t') (hr : RdE w.heap E v l) (hj : l[j]? = some y) (hu : (E.f y)[0]? = some u) (hx : ev s x = some (.pointer (some ⟨blkOf v, offOf v + j * E.k, none⟩))) :
    ExW P s (.load t' x) t u w := xld hs hx (by simpa using hr.cl hj hu)
/-- A field of an element. -/
theorem xlef {α : Type} {E : Enc α} {t' : TypeId} {x : Operand} {v u : Value} {l : List α} {j f : Nat} {y : α} (hs : Sc P t') (hr : RdE w.heap E v l) (hj : l[j]? = some y) (hu : (E.f y)[f]? = some u) (hx : ev s x = some (.pointer (some ⟨blkOf v, offOf v + j * E.k + f, none⟩))) :
    ExW P s (.load t' x) t u w := xld hs hx (hr.cl hj hu)

/-- '==' of structs of plain fields. -/
def EqE {α : Type} [DecidableEq α] (P : Program) (t : TypeId) (E : Enc α) : Prop :=
  ∀ (x y : α) (X Y : Operand) (w : World), (eqGuard .eql t X Y (.agg (E.f x).toArray) (.agg (E.f y).toArray)).run P w = .ok () w ∧ (binOp .eql t (.agg (E.f x).toArray) (.agg (E.f y).toArray)).run P w = .ok (.bool (decide (x = y))) w ∧
    (eqGuard .neq t X Y (.agg (E.f x).toArray) (.agg (E.f y).toArray)).run P w = .ok () w ∧ (binOp .neq t (.agg (E.f x).toArray) (.agg (E.f y).toArray)).run P w = .ok (.bool (!decide (x = y))) w
theorem xeqs {α : Type} [DecidableEq α] {E : Enc α} {t' yt : TypeId} {X Y : Operand} (x y : α) (h : EqE P t' E) (hx : ev s X = some (.agg (E.f x).toArray)) (hy : ev s Y = some (.agg (E.f y).toArray)) : Ex P s (.binOp .eql t' X Y yt) t (.bool (decide (x = y))) := fun w ρ hρ d pos af g => by
  obtain ⟨h1, h2, _, _⟩ := h x y X Y w
  simp [execOp, hρ X _ hx, hρ Y _ hy, h1, h2]
theorem xnes {α : Type} [DecidableEq α] {E : Enc α} {t' yt : TypeId} {X Y : Operand} (x y : α) (h : EqE P t' E) (hx : ev s X = some (.agg (E.f x).toArray)) (hy : ev s Y = some (.agg (E.f y).toArray)) : Ex P s (.binOp .neq t' X Y yt) t (.bool (!decide (x = y))) := fun w ρ hρ d pos af g => by
  obtain ⟨_, _, h1, h2⟩ := h x y X Y w
  simp [execOp, hρ X _ hx, hρ Y _ hy, h1, h2]
theorem xlen {x : Operand} {v : Value} {n : Nat} {t' e : TypeId} (ht : P.underlying t' = some (.slice e)) (hs : Sh v n) (hx : ev s x = some v) : Ex P s (.call ⟨.builtin .len, #[x], #[t']⟩) t (.int .i64 n) := fun w ρ hρ d pos af g => by
  obtain ⟨A, c, rfl⟩ := hs.form
  simp [execOp, resolve, invoke, builtin, Builtin.len_, hρ x _ hx, run_underlying ht, goInt]

theorem RdE.of_bk {α : Type} {H : Heap} {E : Enc α} {b c : Nat} {cs : Array Value} {e : TypeId} {f : Nat × Nat} {l : List α} (hb : H[b]? = some (.cells cs e f)) (hl : cs.toList = l.flatMap E.f) (hc : l.length ≤ c) (hm : c ≤ maxLen) : RdE H E (.slice (some ⟨b, 0, none⟩) l.length c) l := by
  refine ⟨⟨_, c, rfl, hc, hm, by simp, by simp⟩, flat_len E l, fun j u hj => ?_⟩
  refine cl_bk (hb := by simpa [blkOf] using hb) ?_
  simp only [offOf, Nat.zero_add]
  rw [← hl] at hj
  simpa using hj
def evp (s : Sl) : List (Nat × Operand) → Option (List (Nat × Value))
  | [] => some []
  | (i, x) :: l => match ev s x with
    | some v => match evp s l with
      | some vs => some ((i, v) :: vs)
      | none => none
    | none => none
theorem evp_map {s : Sl} {ρ : Operand → Value} (hρ : ∀ x u, ev s x = some u → ρ x = u) : ∀ {l : List (Nat × Operand)} {vs : List (Nat × Value)}, evp s l = some vs → l.map (fun (i, x) => (i, ρ x)) = vs
  | [], _, h => by cases h; rfl
  | (i, x) :: l, vs, h => by
    unfold evp at h
    cases hx : ev s x with
    | none => rw [hx] at h; cases h
    | some v =>
      rw [hx] at h
      cases hl : evp s l with
      | none => rw [hl] at h; cases h
      | some us =>
        rw [hl] at h
        cases h
        rw [List.map_cons, evp_map hρ hl]
        simp [hρ x v hx]
/-! ### What makes memory -/
/-- A slice written out: BS tells what its cells are. -/
def BS (P : Program) (t e n : Nat) (vs : List (Nat × Value)) (cs : Array Value) : Prop :=
  ∀ w, (Instr.buildSlice t n vs.toArray).run P w = .ok (.slice (some ⟨w.heap.size, 0, none⟩) n n) (w.alloc (.cells cs e))
theorem xbs {t' e n : Nat} {parts : List (Nat × Operand)} {vs : List (Nat × Value)} {cs : Array Value} (hp : evp s parts = some vs) (hb : BS P t' e n vs cs) : ExT P s (.buildSlice t' n parts.toArray) t w fun v w' => ∃ b, v = .slice (some ⟨b, 0, none⟩) n n ∧ Le w w' ∧ w'.heap[b]? = some (.cells cs e (0, 0)) ∧ b = w.heap.size := fun ρ hρ d pos af g => by
  refine ⟨.slice (some ⟨w.heap.size, 0, none⟩) n n, w.alloc (.cells cs e), ?_, _, rfl, Le.alloc w _, by (show (w.heap.push _)[w.heap.size]? = _); simp, rfl⟩
  have := hb w
  rw [← evp_map hρ hp] at this
  simp only [execOp, List.map_toArray, Sem.run_bind, this, Result.andThen_ok, Sem.run_pure]
theorem heap_alloc_self (w : World) (o : Obj) : (w.alloc o).heap[w.heap.size]? = some o := by
  show (w.heap.push o)[w.heap.size]? = _
  simp
theorem xbox {x : Operand} {elem : TypeId} {cs : Array Value} (hx : ev s x = some (.agg cs)) : ExT P s (.box elem x) t w fun v w' => ∃ b, v = .pointer (some ⟨b, 0, none⟩) ∧ Le w w' ∧ w'.heap[b]? = some (.cells cs elem (0, 0)) ∧ b = w.heap.size := fun ρ hρ d pos af g => by
  refine ⟨.pointer (some ⟨w.heap.size, 0, none⟩), w.alloc (.cells cs elem), ?_, _, rfl, Le.alloc w _, heap_alloc_self w _, rfl⟩
  simp only [execOp, hρ x _ hx, Instr.box, newVar, newRow, newObj, Value.cells, Sem.run_bind]
  rfl
theorem xbox1 {x : Operand} {elem : TypeId} {u : Value} (hx : ev s x = some u) (hu : u.cells = #[u]) : ExT P s (.box elem x) t w fun v w' => ∃ b, v = .pointer (some ⟨b, 0, none⟩) ∧ Le w w' ∧ w'.heap[b]? = some (.cells #[u] elem (0, 0)) ∧ b = w.heap.size := fun ρ hρ d pos af g => by
  refine ⟨.pointer (some ⟨w.heap.size, 0, none⟩), w.alloc (.cells #[u] elem), ?_, _, rfl, Le.alloc w _, heap_alloc_self w _, rfl⟩
  simp only [execOp, hρ x _ hx, Instr.box, newVar, newRow, newObj, hu, Sem.run_bind]
  rfl
theorem xlbn {t' k b o : Nat} {x : Operand} {cs : Array Value} {e : TypeId} {f : Nat × Nat} (vs : List Value) (hs : Ag P t' k) (hk : vs.length = k) (hb : w.heap[b]? = some (.cells cs e f)) (hx : ev s x = some (.pointer (some ⟨b, o, none⟩)))
    (h : ∀ j u, vs[j]? = some u → cs[o + j]? = some u) : ExW P s (.load t' x) t (.agg vs.toArray) w := xldn vs hs hk hx fun j u hj => by rw [add_at]; exact cl_bk hb (h j u hj)
theorem xlb2 {t' b o : Nat} {x : Operand} {cs : Array Value} {e : TypeId} {f : Nat × Nat} {c0 c1 : Value} (hs : Ag P t' 2) (hb : w.heap[b]? = some (.cells cs e f)) (hx : ev s x = some (.pointer (some ⟨b, o, none⟩))) (h0 : cs[o]? = some c0) (h1 : cs[o + 1]? = some c1) : ExW P s (.load t' x) t (.agg #[c0, c1]) w :=
  xlbn [c0, c1] hs rfl hb hx fun j u hj => by
    have hlt : j < 2 := (List.getElem?_eq_some_iff.1 hj).1
    rcases j with _ | j
    · cases hj; exact h0
    rcases j with _ | j
    · cases hj; exact h1
    · omega
theorem xlb3 {t' b o : Nat} {x : Operand} {cs : Array Value} {e : TypeId} {f : Nat × Nat} {c0 c1 c2 : Value} (hs : Ag P t' 3) (hb : w.heap[b]? = some (.cells cs e f)) (hx : ev s x = some (.pointer (some ⟨b, o, none⟩))) (h0 : cs[o]? = some c0) (h1 : cs[o + 1]? = some c1) (h2 : cs[o + 2]? = some c2) : ExW P s (.load t' x) t (.agg #[c0, c1, c2]) w :=
  xlbn [c0, c1, c2] hs rfl hb hx fun j u hj => by
    have hlt : j < 3 := (List.getElem?_eq_some_iff.1 hj).1
    rcases j with _ | j
    · cases hj; exact h0
    rcases j with _ | j
    · cases hj; exact h1
    rcases j with _ | j
    · cases hj; exact h2
    · omega
theorem xlb4 {t' b o : Nat} {x : Operand} {cs : Array Value} {e : TypeId} {f : Nat × Nat} {c0 c1 c2 c3 : Value} (hs : Ag P t' 4) (hb : w.heap[b]? = some (.cells cs e f)) (hx : ev s x = some (.pointer (some ⟨b, o, none⟩))) (h0 : cs[o]? = some c0) (h1 : cs[o + 1]? = some c1) (h2 : cs[o + 2]? = some c2) (h3 : cs[o + 3]? = some c3) : ExW P s (.load t' x) t (.agg #[c0, c1, c2, c3]) w :=
  xlbn [c0, c1, c2, c3] hs rfl hb hx fun j u hj => by
    have hlt : j < 4 := (List.getElem?_eq_some_iff.1 hj).1
    rcases j with _ | j
    · cases hj; exact h0
    rcases j with _ | j
    · cases hj; exact h1
    rcases j with _ | j
    · cases hj; exact h2
    rcases j with _ | j
    · cases hj; exact h3
    · omega
theorem xlb5 {t' b o : Nat} {x : Operand} {cs : Array Value} {e : TypeId} {f : Nat × Nat} {c0 c1 c2 c3 c4 : Value} (hs : Ag P t' 5) (hb : w.heap[b]? = some (.cells cs e f)) (hx : ev s x = some (.pointer (some ⟨b, o, none⟩))) (h0 : cs[o]? = some c0) (h1 : cs[o + 1]? = some c1) (h2 : cs[o + 2]? = some c2) (h3 : cs[o + 3]? = some c3) (h4 : cs[o + 4]? = some c4) : ExW P s (.load t' x) t (.agg #[c0, c1, c2, c3, c4]) w :=
  xlbn [c0, c1, c2, c3, c4] hs rfl hb hx fun j u hj => by
    have hlt : j < 5 := (List.getElem?_eq_some_iff.1 hj).1
    rcases j with _ | j
    · cases hj; exact h0
    rcases j with _ | j
    · cases hj; exact h1
    rcases j with _ | j
    · cases hj; exact h2
    rcases j with _ | j
    · cases hj; exact h3
    rcases j with _ | j
    · cases hj; exact h4
    · omega
theorem xlb6 {t' b o : Nat} {x : Operand} {cs : Array Value} {e : TypeId} {f : Nat × Nat} {c0 c1 c2 c3 c4 c5 : Value} (hs : Ag P t' 6) (hb : w.heap[b]? = some (.cells cs e f)) (hx : ev s x = some (.pointer (some ⟨b, o, none⟩))) (h0 : cs[o]? = some c0) (h1 : cs[o + 1]? = some c1) (h2 : cs[o + 2]? = some c2) (h3 : cs[o + 3]? = some c3) (h4 : cs[o + 4]? = some c4) (h5 : cs[o + 5]? = some c5) : ExW P s (.load t' x) t (.agg #[c0, c1, c2, c3, c4, c5]) w :=
  xlbn [c0, c1, c2, c3, c4, c5] hs rfl hb hx fun j u hj => by
    have hlt : j < 6 := (List.getElem?_eq_some_iff.1 hj).1
    rcases j with _ | j
    · cases hj; exact h0
    rcases j with _ | j
    · cases hj; exact h1
    rcases j with _ | j
    · cases hj; exact h2
    rcases j with _ | j
    · cases hj; exact h3
    rcases j with _ | j
    · cases hj; exact h4
    rcases j with _ | j
    · cases hj; exact h5
    · omega
theorem xlb8 {t' b o : Nat} {x : Operand} {cs : Array Value} {e : TypeId} {f : Nat × Nat} {c0 c1 c2 c3 c4 c5 c6 c7 : Value} (hs : Ag P t' 8) (hb : w.heap[b]? = some (.cells cs e f)) (hx : ev s x = some (.pointer (some ⟨b, o, none⟩))) (h0 : cs[o]? = some c0) (h1 : cs[o + 1]? = some c1) (h2 : cs[o + 2]? = some c2) (h3 : cs[o + 3]? = some c3) (h4 : cs[o + 4]? = some c4) (h5 : cs[o + 5]? = some c5) (h6 : cs[o + 6]? = some c6) (h7 : cs[o + 7]? = some c7) : ExW P s (.load t' x) t (.agg #[c0, c1, c2, c3, c4, c5, c6, c7]) w :=
  xlbn [c0, c1, c2, c3, c4, c5, c6, c7] hs rfl hb hx fun j u hj => by
    have hlt : j < 8 := (List.getElem?_eq_some_iff.1 hj).1
    rcases j with _ | j
    · cases hj; exact h0
    rcases j with _ | j
    · cases hj; exact h1
    rcases j with _ | j
    · cases hj; exact h2
    rcases j with _ | j
    · cases hj; exact h3
    rcases j with _ | j
    · cases hj; exact h4
    rcases j with _ | j
    · cases hj; exact h5
    rcases j with _ | j
    · cases hj; exact h6
    rcases j with _ | j
    · cases hj; exact h7
    · omega
theorem xlb10 {t' b o : Nat} {x : Operand} {cs : Array Value} {e : TypeId} {f : Nat × Nat} {c0 c1 c2 c3 c4 c5 c6 c7 c8 c9 : Value} (hs : Ag P t' 10) (hb : w.heap[b]? = some (.cells cs e f)) (hx : ev s x = some (.pointer (some ⟨b, o, none⟩))) (h0 : cs[o]? = some c0) (h1 : cs[o + 1]? = some c1) (h2 : cs[o + 2]? = some c2) (h3 : cs[o + 3]? = some c3) (h4 : cs[o + 4]? = some c4) (h5 : cs[o + 5]? = some c5) (h6 : cs[o + 6]? = some c6) (h7 : cs[o + 7]? = some c7) (h8 : cs[o + 8]? = some c8) (h9 : cs[o + 9]? = some c9) : ExW P s (.load t' x) t (.agg #[c0, c1, c2, c3, c4, c5, c6, c7, c8, c9]) w :=
  xlbn [c0, c1, c2, c3, c4, c5, c6, c7, c8, c9] hs rfl hb hx fun j u hj => by
    have hlt : j < 10 := (List.getElem?_eq_some_iff.1 hj).1
    rcases j with _ | j
    · cases hj; exact h0
    rcases j with _ | j
    · cases hj; exact h1
    rcases j with _ | j
    · cases hj; exact h2
    rcases j with _ | j
    · cases hj; exact h3
    rcases j with _ | j
    · cases hj; exact h4
    rcases j with _ | j
    · cases hj; exact h5
    rcases j with _ | j
    · cases hj; exact h6
    rcases j with _ | j
    · cases hj; exact h7
    rcases j with _ | j
    · cases hj; exact h8
    rcases j with _ | j
    · cases hj; exact h9
    · omega
theorem xlb18 {t' b o : Nat} {x : Operand} {cs : Array Value} {e : TypeId} {f : Nat × Nat} {c0 c1 c2 c3 c4 c5 c6 c7 c8 c9 c10 c11 c12 c13 c14 c15 c16 c17 : Value} (hs : Ag P t' 18) (hb : w.heap[b]? = some (.cells cs e f)) (hx : ev s x = some (.pointer (some ⟨b, o, none⟩))) (h0 : cs[o]? = some c0) (h1 : cs[o + 1]? = some c1) (h2 : cs[o + 2]? = some c2) (h3 : cs[o + 3]? = some c3) (h4 : cs[o + 4]? = some c4) (h5 : cs[o + 5]? = some c5) (h6 : cs[o + 6]? = some c6) (h7 : cs[o + 7]? = some c7) (h8 : cs[o + 8]? = some c8) (h9 : cs[o + 9]? = some c9) (h10 : cs[o + 10]? = some c10) (h11 : cs[o + 11]? = some c11) (h12 : cs[o + 12]? = some c12) (h13 : cs[o + 13]? = some c13) (h14 : cs[o + 14]? = some c14) (h15 : cs[o + 15]? = some c15) (h16 : cs[o + 16]? = some c16) (h17 : cs[o + 17]? = some c17) : ExW P s (.load t' x) t (.agg #[c0, c1, c2, c3, c4, c5, c6, c7, c8, c9, c10, c11, c12, c13, c14, c15, c16, c17]) w :=
  xlbn [c0, c1, c2, c3, c4, c5, c6, c7, c8, c9, c10, c11, c12, c13, c14, c15, c16, c17] hs rfl hb hx fun j u hj => by
    have hlt : j < 18 := (List.getElem?_eq_some_iff.1 hj).1
    rcases j with _ | j
    · cases hj; exact h0
    rcases j with _ | j
    · cases hj; exact h1
    rcases j with _ | j
    · cases hj; exact h2
    rcases j with _ | j
    · cases hj; exact h3
    rcases j with _ | j
    · cases hj; exact h4
    rcases j with _ | j
    · cases hj; exact h5
    rcases j with _ | j
    · cases hj; exact h6
    rcases j with _ | j
    · cases hj; exact h7
    rcases j with _ | j
    · cases hj; exact h8
    rcases j with _ | j
    · cases hj; exact h9
    rcases j with _ | j
    · cases hj; exact h10
    rcases j with _ | j
    · cases hj; exact h11
    rcases j with _ | j
    · cases hj; exact h12
    rcases j with _ | j
    · cases hj; exact h13
    rcases j with _ | j
    · cases hj; exact h14
    rcases j with _ | j
    · cases hj; exact h15
    rcases j with _ | j
    · cases hj; exact h16
    rcases j with _ | j
    · cases hj; exact h17
    · omega
theorem xlb19 {t' b o : Nat} {x : Operand} {cs : Array Value} {e : TypeId} {f : Nat × Nat} {c0 c1 c2 c3 c4 c5 c6 c7 c8 c9 c10 c11 c12 c13 c14 c15 c16 c17 c18 : Value} (hs : Ag P t' 19) (hb : w.heap[b]? = some (.cells cs e f)) (hx : ev s x = some (.pointer (some ⟨b, o, none⟩))) (h0 : cs[o]? = some c0) (h1 : cs[o + 1]? = some c1) (h2 : cs[o + 2]? = some c2) (h3 : cs[o + 3]? = some c3) (h4 : cs[o + 4]? = some c4) (h5 : cs[o + 5]? = some c5) (h6 : cs[o + 6]? = some c6) (h7 : cs[o + 7]? = some c7) (h8 : cs[o + 8]? = some c8) (h9 : cs[o + 9]? = some c9) (h10 : cs[o + 10]? = some c10) (h11 : cs[o + 11]? = some c11) (h12 : cs[o + 12]? = some c12) (h13 : cs[o + 13]? = some c13) (h14 : cs[o + 14]? = some c14) (h15 : cs[o + 15]? = some c15) (h16 : cs[o + 16]? = some c16) (h17 : cs[o + 17]? = some c17) (h18 : cs[o + 18]? = some c18) : ExW P s (.load t' x) t (.agg #[c0, c1, c2, c3, c4, c5, c6, c7, c8, c9, c10, c11, c12, c13, c14, c15, c16, c17, c18]) w :=
  xlbn [c0, c1, c2, c3, c4, c5, c6, c7, c8, c9, c10, c11, c12, c13, c14, c15, c16, c17, c18] hs rfl hb hx fun j u hj => by
    have hlt : j < 19 := (List.getElem?_eq_some_iff.1 hj).1
    rcases j with _ | j
    · cases hj; exact h0
    rcases j with _ | j
    · cases hj; exact h1
    rcases j with _ | j
    · cases hj; exact h2
    rcases j with _ | j
    · cases hj; exact h3
    rcases j with _ | j
    · cases hj; exact h4
    rcases j with _ | j
    · cases hj; exact h5
    rcases j with _ | j
    · cases hj; exact h6
    rcases j with _ | j
    · cases hj; exact h7
    rcases j with _ | j
    · cases hj; exact h8
    rcases j with _ | j
    · cases hj; exact h9
    rcases j with _ | j
    · cases hj; exact h10
    rcases j with _ | j
    · cases hj; exact h11
    rcases j with _ | j
    · cases hj; exact h12
    rcases j with _ | j
    · cases hj; exact h13
    rcases j with _ | j
    · cases hj; exact h14
    rcases j with _ | j
    · cases hj; exact h15
    rcases j with _ | j
    · cases hj; exact h16
    rcases j with _ | j
    · cases hj; exact h17
    rcases j with _ | j
    · cases hj; exact h18
    · omega

/-! ### Rows of one's own; append -/
def Ow {α : Type} (w : World) (base : World) (e : TypeId) (E : Enc α) (v : Value) (l : List α) : Prop := w.ownsRow base.heap.size e E.k v l.length (l.flatMap E.f)
theorem Ow.rd {α : Type} {w base : World} {e : TypeId} {E : Enc α} {v : Value} {l : List α} (h : Ow w base e E v l) : RdE w.heap E v l := RdE.of_own h
theorem Ow.nil {α : Type} (w base : World) (e : TypeId) (E : Enc α) : Ow w base e E (.slice none 0 0) [] := ⟨by simp, .inl ⟨rfl, rfl⟩⟩
theorem Ow.le {α : Type} {w w' base : World} {e : TypeId} {E : Enc α} {v : Value} {l : List α} (h : Ow w base e E v l) (hl : Le w w') : Ow w' base e E v l := by
  obtain ⟨h1, h2⟩ := h
  refine ⟨h1, ?_⟩
  rcases h2 with h2 | ⟨g, cap, cur, hv, hb, hh, r⟩
  · exact .inl h2
  · exact .inr ⟨g, cap, cur, hv, hb, hl.bk hh, r⟩
theorem Ow.base {α : Type} {w base base' : World} {e : TypeId} {E : Enc α} {v : Value} {l : List α} (h : Ow w base e E v l) (hb : base'.heap.size ≤ base.heap.size) : Ow w base' e E v l := by
  obtain ⟨h1, h2⟩ := h
  refine ⟨h1, ?_⟩
  rcases h2 with h2 | ⟨g, cap, cur, hv, hg, r⟩
  · exact .inl h2
  · exact .inr ⟨g, cap, cur, hv, Nat.le_trans hb hg, r⟩
/-- What append asks of the element's type. -/
def El (P : Program) (e k bytes : Nat) : Prop := (P.info? e).map (fun i => (i.zero.map (·.cells.size), i.size, i.bytes)) = some (some k, k, bytes)
theorem El.parts {e k bytes : Nat} (h : El P e k bytes) : ∃ i z, P.info? e = some i ∧ i.zero = some z ∧ i.size = k ∧ i.bytes = bytes ∧ z.cells.size = k := by
  unfold El at h
  cases hi : P.info? e with
  | none => rw [hi] at h; cases h
  | some i =>
    rw [hi] at h
    simp only [Option.map_some, Option.some.injEq, Prod.mk.injEq] at h
    obtain ⟨h1, h2, h3⟩ := h
    cases hz : i.zero with
    | none => rw [hz] at h1; cases h1
    | some z =>
      rw [hz] at h1
      simp at h1
      exact ⟨i, z, rfl, hz, h2, h3, h1⟩
theorem flat_one {α : Type} (E : Enc α) (l : List α) : ∀ u ∈ l.flatMap E.f, u.oneCell' = true := fun u hu => by
  obtain ⟨x, _, hx⟩ := List.mem_flatMap.1 hu
  exact E.one x u hx
theorem run_append_nothing {t' e ty : TypeId} {base A : Option Addr} {n c c' k : Nat} (ht : P.underlying t' = some (.slice e)) (hk : ∀ w, (sizeOf e).run P w = .ok k w) (hc : n ≤ c) :
    (Builtin.append_ #[t', t'] ty #[.slice base n c, .slice A 0 c']).run P w = .ok (.slice base n c) w := by
  cases A <;> cases base <;> simp [Builtin.append_, run_underlying ht, hk, Builtin.lenOf, hc, Builtin.firstCells, loadCells, loadCellsFrom, storeCells]
theorem xapp {α : Type} {E : Enc α} {t' e bytes : Nat} {x y : Operand} {v u : Value} {l m : List α} {base : World} (ht : P.underlying t' = some (.slice e)) (hel : El P e E.k bytes) (hk : ∀ w, (sizeOf e).run P w = .ok E.k w) (hk0 : Nat.blt 0 E.k = true) (ho : Ow w base e E v l) (hr : RdE w.heap E u m) (hb : Le base w)
    (h63 : l.length + m.length ≤ maxLen) (hby : (l.length + m.length) * bytes ≤ 140737488355328) (hx : ev s x = some v) (hy : ev s y = some u) :
    ExT P s (.call ⟨.builtin .append, #[x, y], #[t', t']⟩) t w fun v' w' => Le base w' ∧ Ow w' base e E v' (l ++ m) ∧ Apd v v' w w' := fun ρ hρ d pos af g => by
  by_cases hm : m = []
  · subst hm
    obtain ⟨A, c, rfl, hc, _⟩ := hr.sh
    obtain ⟨A', c', hv, hc', _⟩ := ho.rd.sh
    refine ⟨v, w, ?_, hb, by simpa using ho, ⟨(Le.refl w).lx, .inl rfl⟩⟩
    have := run_append_nothing (P := P) (w := w) (ty := t) (base := A') (A := A) (n := l.length) (c := c') (c' := c) ht hk hc'
    simp only [execOp, resolve, invoke, builtin, Sem.run_bind, Sem.run_pure, Result.andThen_ok, List.map_toArray, List.map_cons, List.map_nil, hρ x _ hx, hρ y _ hy]
    rw [hv]
    simp only [List.length_nil, this, Result.andThen_ok]
  · have hpos : 0 < m.length := List.length_pos_iff.2 hm
    obtain ⟨c, hu⟩ := hr.sh.pos hpos
    obtain ⟨i, z, hi, hz, h1, h2, h3⟩ := hel.parts
    obtain ⟨v', w', hrun, hown, hgr, hnil, hbk⟩ := run_append_own_at (P := P) w base.heap.size t' t e i z E.k bytes ht hi hz h1 h2 h3 (Nat.le_of_ble_eq_true hk0) v l.length (l.flatMap E.f) ho ⟨blkOf u, offOf u, none⟩ m.length c (m.flatMap E.f) (flat_len E m)
      (fun j a ha => by rw [add_at, cell_cl]; exact hr.at_ j a ha) (flat_one E m) h63 hby hb.size
    have hdr := run_drawn P (Builtin.append_ #[t', t'] t #[v, .slice (some ⟨blkOf u, offOf u, none⟩) m.length c]) w
    rw [hrun] at hdr
    refine ⟨v', w', ?_, ?_, ?_, Lx.grown hgr hdr, hbk⟩
    · simp only [execOp, resolve, invoke, builtin, Sem.run_bind, Sem.run_pure, Result.andThen_ok, List.map_toArray, List.map_cons, List.map_nil, hρ x _ hx, hρ y _ hy]
      rw [hu, hrun]
      rfl
    · refine ⟨Below.grown hb.bel hgr hb.size fun k hk => ?_, Nat.le_trans hb.dr hdr⟩
      rcases ho.2 with ⟨hv, _⟩ | ⟨g, cap, cur, hv, hg, _⟩
      · rw [hv] at hk; cases hk
      · rw [hv] at hk; simp [Value.ownBlock] at hk; omega
    · simpa [Ow, List.length_append, List.flatMap_append] using hown

/-! ### Slices of slices -/
def subV (v : Value) (lo hi k : Nat) : Value :=
  match v with
  | .slice A n c => .slice (if c = lo then A else A.map (·.add (lo * k))) (hi - lo) (c - lo)
  | v => v
theorem RdE.sub {α : Type} {H : Heap} {E : Enc α} {v : Value} {l : List α} (h : RdE H E v l) {lo hi : Nat} (h1 : lo ≤ hi) (h2 : hi ≤ l.length) : RdE H E (subV v lo hi E.k) ((l.drop lo).take (hi - lo)) := by
  have hlen : ((l.drop lo).take (hi - lo)).length = hi - lo := by simp; omega
  obtain ⟨A, c, rfl, hc, hm, hs, hn⟩ := h.sh
  refine ⟨⟨_, c - lo, by rw [subV, hlen], by omega, by omega, ?_, ?_⟩, flat_len E _, ?_⟩
  · intro a ha h0
    split at ha
    · omega
    · cases A with
      | none => cases ha
      | some b => simp at ha; subst ha; have := hs b rfl (by omega); unfold Addr.add; split <;> simp_all
  · intro ha
    split at ha
    · have := hn ha; omega
    · cases A with
      | none => have := hn rfl; omega
      | some b => cases ha
  · intro j u hj
    have hj' : j < (hi - lo) * E.k := by
      have := (List.getElem?_eq_some_iff.1 hj).1
      rwa [flat_len, hlen] at this
    have hpos : 0 < hi - lo := by
      rcases Nat.eq_zero_or_pos (hi - lo) with h0 | h0
      · rw [h0] at hj'; omega
      · exact h0
    have hne : ¬ c = lo := by omega
    have hflat : (l.flatMap E.f)[lo * E.k + j]? = some u := by
      have e : l.flatMap E.f = (l.take lo).flatMap E.f ++ (l.drop lo).flatMap E.f := by rw [← List.flatMap_append, List.take_append_drop]
      have e2 : (l.drop lo).flatMap E.f = ((l.drop lo).take (hi - lo)).flatMap E.f ++ ((l.drop lo).drop (hi - lo)).flatMap E.f := by rw [← List.flatMap_append, List.take_append_drop]
      have hl0 : ((l.take lo).flatMap E.f).length = lo * E.k := by rw [flat_len, List.length_take, Nat.min_eq_left (by omega)]
      rw [e, List.getElem?_append_right (by omega), hl0, e2, List.getElem?_append_left (by rw [flat_len, hlen]; omega)]
      rw [show lo * E.k + j - lo * E.k = j by omega]; exact hj
    have := h.at_ _ _ hflat
    cases A with
    | none => have := hn rfl; omega
    | some b =>
      have hb := hs b rfl (by omega)
      obtain ⟨bb, bo, bs⟩ := b
      simp at hb; subst hb
      simp only [subV, hne, if_false, Option.map_some, blkOf, offOf, add_at] at this ⊢
      rw [Nat.add_assoc]; exact this
theorem run_sub {t' e n lo hi k : Nat} {v : Value} {L H : Option Value} (ht : P.underlying t' = some (.slice e)) (hk : ∀ w, (sizeOf e).run P w = .ok k w) (hv : Sh v n) (h1 : lo ≤ hi) (h2 : hi ≤ n)
    (hL : (L = none ∧ lo = 0) ∨ ∃ kd, L = some (.int kd lo)) (hH : (H = none ∧ hi = n) ∨ ∃ kd, H = some (.int kd hi)) : (Instr.slice t' v L H none).run P w = .ok (subV v lo hi k) w := by
  obtain ⟨A, c, rfl, hc, _⟩ := hv
  have g1 : (0 : Int) ≤ (hi : Int) ∧ (hi : Int) ≤ (c : Int) := by omega
  have g2 : (0 : Int) ≤ (lo : Int) ∧ (lo : Int) ≤ (hi : Int) := by omega
  rcases hL with ⟨rfl, rfl⟩ | ⟨kd, rfl⟩ <;> rcases hH with ⟨rfl, rfl⟩ | ⟨kd', rfl⟩ <;>
    simp [Instr.slice, run_underlying ht, Instr.sliceBounds, Instr.sliceBound, asIntOf, hk, subV, g1, g2, h1, h2, show hi ≤ c by omega] <;> omega
theorem xsubl {t' e n k : Nat} {x lo : Operand} {v : Value} {kd : IntKind} {z : Int} (i : Nat) (ht : P.underlying t' = some (.slice e)) (hk : ∀ w, (sizeOf e).run P w = .ok k w) (hv : Sh v n) (hx : ev s x = some v) (hl : ev s lo = some (.int kd z)) (hz : z = i) (hi : i ≤ n) :
    Ex P s (.slice t' x (some lo) none none) t (subV v i n k) := fun w ρ hρ d pos af g => by
  subst hz
  simp only [execOp, Option.map_some, Option.map_none, hρ x _ hx, hρ lo _ hl, Sem.run_bind]
  have : (Instr.sliceAt t' v (some (.int kd i)) none none).run P w = .ok (subV v i n k) w := by
    unfold Instr.sliceAt
    simp only [Sem.run_bind, run_underlying ht, Result.andThen_ok]
    exact run_sub ht hk hv hi (Nat.le_refl _) (.inr ⟨kd, rfl⟩) (.inl ⟨rfl, rfl⟩)
  rw [this]; simp
theorem xsubh {t' e n k : Nat} {x hi : Operand} {v : Value} {kd : IntKind} {z : Int} (j : Nat) (ht : P.underlying t' = some (.slice e)) (hk : ∀ w, (sizeOf e).run P w = .ok k w) (hv : Sh v n) (hx : ev s x = some v) (hl : ev s hi = some (.int kd z)) (hz : z = j) (hj : j ≤ n) :
    Ex P s (.slice t' x none (some hi) none) t (subV v 0 j k) := fun w ρ hρ d pos af g => by
  subst hz
  simp only [execOp, Option.map_some, Option.map_none, hρ x _ hx, hρ hi _ hl, Sem.run_bind]
  have : (Instr.sliceAt t' v none (some (.int kd j)) none).run P w = .ok (subV v 0 j k) w := by
    unfold Instr.sliceAt
    simp only [Sem.run_bind, run_underlying ht, Result.andThen_ok]
    exact run_sub ht hk hv (Nat.zero_le _) hj (.inl ⟨rfl, rfl⟩) (.inr ⟨kd, rfl⟩)
  rw [this]; simp
theorem xsublh {t' e n k : Nat} {x lo hi : Operand} {v : Value} {kd kd' : IntKind} {z z' : Int} (i j : Nat) (ht : P.underlying t' = some (.slice e)) (hk : ∀ w, (sizeOf e).run P w = .ok k w) (hv : Sh v n) (hx : ev s x = some v) (hl : ev s lo = some (.int kd z)) (hh : ev s hi = some (.int kd' z')) (hz : z = i) (hz' : z' = j) (hij : i ≤ j) (hj : j ≤ n) :
    Ex P s (.slice t' x (some lo) (some hi) none) t (subV v i j k) := fun w ρ hρ d pos af g => by
  subst hz; subst hz'
  simp only [execOp, Option.map_some, Option.map_none, hρ x _ hx, hρ lo _ hl, hρ hi _ hh, Sem.run_bind]
  have : (Instr.sliceAt t' v (some (.int kd i)) (some (.int kd' j)) none).run P w = .ok (subV v i j k) w := by
    unfold Instr.sliceAt
    simp only [Sem.run_bind, run_underlying ht, Result.andThen_ok]
    exact run_sub ht hk hv hij hj (.inr ⟨kd, rfl⟩) (.inr ⟨kd', rfl⟩)
  rw [this]; simp
theorem RdE.take {α : Type} {H : Heap} {E : Enc α} {v : Value} {l : List α} (h : RdE H E v l) {j : Nat} (hj : j ≤ l.length) : RdE H E (subV v 0 j E.k) (l.take j) := by
  have := h.sub (Nat.zero_le j) hj; simpa using this
theorem RdE.drop {α : Type} {H : Heap} {E : Enc α} {v : Value} {l : List α} (h : RdE H E v l) {i : Nat} (hi : i ≤ l.length) : RdE H E (subV v i l.length E.k) (l.drop i) := by
  have := h.sub hi (Nat.le_refl _)
  rwa [List.take_of_length_le (by simp)] at this

/-! ### nil; a slice written out -/
def isNilV : Value → Bool
  | .slice none _ _ => true
  | .pointer none => true
  | .map none => true
  | _ => false
theorem nil_len {v : Value} {n : Nat} (h : Sh v n) (hb : isNilV v = true) : n = 0 := by
  obtain ⟨A, c, rfl, h1, h2, h3, h4⟩ := h
  cases A with
  | none => have := h4 rfl; omega
  | some a => simp [isNilV] at hb
theorem xsnil {t' e n : Nat} {x y : Operand} {v : Value} {yt : TypeId} (ht : P.underlying t' = some (.slice e)) (hs : Sh v n) (hx : ev s x = some v) (hy : ev s y = some (.slice none 0 0)) : Ex P s (.binOp .eql t' x y yt) t (.bool (isNilV v)) := fun w ρ hρ d pos af g => by
  obtain ⟨A, c, rfl, _⟩ := hs
  have hg : (eqGuard .eql t' x y (.slice A n c) (.slice none 0 0)).run P w = .ok () w := by simp [eqGuard]
  have he : (binOp .eql t' (.slice A n c) (.slice none 0 0)).run P w = .ok (.bool A.isNone) w := by
    have := run_equalIn_slice_nil (P := P) w 9999 t' e A n c ht
    simp only [binOp, Op.equal, Op.maxDepth, Sem.run_bind, this, Result.andThen_ok, Sem.run_pure]
  have hb : isNilV (.slice A n c) = A.isNone := by cases A <;> rfl
  simp only [execOp, hρ x _ hx, hρ y _ hy, Sem.run_bind, hg, he, Result.andThen_ok, Sem.run_pure, hb]
theorem Ow.of_bk {α : Type} {w base : World} {E : Enc α} {b : Nat} {cs : Array Value} {e : TypeId} {l : List α} (hb : w.heap[b]? = some (.cells cs e (0, 0))) (hl : cs.toList = l.flatMap E.f) (hbase : b = base.heap.size) (hm : l.length ≤ maxLen) : Ow w base e E (.slice (some ⟨b, 0, none⟩) l.length l.length) l := by
  have hz : cs.size = l.length * E.k := by rw [← flat_len, ← hl]; simp
  exact ⟨flat_len E l, .inr ⟨b, l.length, cs, rfl, by omega, hb, Nat.le_refl _, hm, hz, by rw [← flat_len, ← hl, List.take_length]⟩⟩
end ex
end Go.Proofs.Ythmhbonhagjnnaa
