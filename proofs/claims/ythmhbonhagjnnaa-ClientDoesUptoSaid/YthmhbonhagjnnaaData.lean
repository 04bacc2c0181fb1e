/- The program's plain types: how their values lie in cells; when '==' holds of them. -/
import Derived.Test.YthmhbonhagjnnaaMem
import Derived.Laws.StructEq
namespace Go.Proofs.Ythmhbonhagjnnaa
open Go.RowKit
set_option linter.unusedVariables false
set_option linter.unusedSimpArgs false

abbrev Key := Int × Int
abbrev KPair := Key × Int
abbrev KCell := Key × Int × Int
abbrev Change := Key × Int × Bool
def KeyE : Enc Key := ⟨2, fun x => [.int .i32 x.1, .int .i64 x.2], fun _ => rfl, fun x u hu => by simp at hu; rcases hu with rfl | rfl <;> rfl⟩
def PairE : Enc KPair := ⟨3, fun x => [.int .i32 x.1.1, .int .i64 x.1.2, .int .i64 x.2], fun _ => rfl, fun x u hu => by simp at hu; rcases hu with rfl | rfl | rfl <;> rfl⟩
def CellE : Enc KCell := ⟨4, fun x => [.int .i32 x.1.1, .int .i64 x.1.2, .int .i64 x.2.1, .int .i64 x.2.2], fun _ => rfl, fun x u hu => by simp at hu; rcases hu with rfl | rfl | rfl | rfl <;> rfl⟩
def ChangeE : Enc Change := ⟨4, fun x => [.int .i32 x.1.1, .int .i64 x.1.2, .int .i64 x.2.1, .bool x.2.2], fun _ => rfl, fun x u hu => by simp at hu; rcases hu with rfl | rfl | rfl | rfl <;> rfl⟩
def IntE : Enc Int := ⟨1, fun x => [.int .i64 x], fun _ => rfl, fun x u hu => by simp at hu; rw [hu]; rfl⟩
def ByteE : Enc Int := ⟨1, fun x => [.int .u8 x], fun _ => rfl, fun x u hu => by simp at hu; rw [hu]; rfl⟩
def eqSum (d : Nat) (xs ys : Array Value) : List (Bool × TypeId × Nat) → Sem Bool
  | [] => pure true
  | (u, t, o) :: l => if u = false then do
      let a ← part t xs o
      let b ← part t ys o
      let r ← Op.equalIn d t a b
      if (!r) = true then pure false else eqSum d xs ys l
    else eqSum d xs ys l
theorem eqFields_sum (d : Nat) (xs ys : Array Value) : ∀ (l : List Field) (l' : List (Bool × TypeId × Nat)), l.map (fun f => (f.name == "_", f.type, f.offset)) = l' → Op.eqFields d xs ys l = eqSum d xs ys l'
  | [], _, h => by subst h; rfl
  | f :: l, _, h => by
    subst h
    have ih := eqFields_sum d xs ys l _ rfl
    unfold Op.eqFields
    simp only [List.map_cons, eqSum, ih]
    by_cases hn : f.name = "_" <;> simp [hn]
theorem eqIn_agg {P : Program} {d T : Nat} {xs ys : Array Value} {w : World} (l : List (Bool × TypeId × Nat)) (h1 : P.underlying T = some (.struct (P.fieldsOf T))) (h2 : P.stoodInHeld T = false)
    (h3 : (P.fieldsOf T).toList.map (fun f => (f.name == "_", f.type, f.offset)) = l) : (Op.equalIn (d + 1) T (.agg xs) (.agg ys)).run P w = (eqSum d xs ys l).run P w := by
  rw [run_equalIn_agg w d T _ _ h1 h2, eqFields_sum d xs ys _ _ h3]
theorem EqE.of {α : Type} [DecidableEq α] {P : Program} {T : TypeId} {E : Enc α} (hg : P.eqGuardType P.depth T = false) (h : ∀ x y w, (Op.equalIn 10000 T (.agg (E.f x).toArray) (.agg (E.f y).toArray)).run P w = .ok (decide (x = y)) w) : EqE P T E := fun x y X Y w => by
  refine ⟨run_eqGuard_agg w _ _ _ _ _ _ hg, ?_, run_eqGuard_agg w _ _ _ _ _ _ hg, ?_⟩
  · rw [run_eql_struct, h]; rfl
  · simp only [binOp, Op.equal, Op.maxDepth, Sem.run_bind, h, Result.andThen_ok, Sem.run_pure]
/-! ### Lists -/
theorem ne_at {α : Type} {a b : List α} {k : Nat} {x y : α} (hx : a[k]? = some x) (hy : b[k]? = some y) (h : x ≠ y) : a ≠ b := fun e => by
  subst e; rw [hx] at hy; exact h (Option.some.inj hy)
theorem ne_len {α : Type} {a b : List α} (h : ¬ (a.length : Int) = (b.length : Int)) : a ≠ b := fun e => h (by rw [e])
theorem take_step {α : Type} {a b : List α} {k : Nat} {x y : α} (h : a.take k = b.take k) (hx : a[k]? = some x) (hy : b[k]? = some y) (e : x = y) : a.take (k + 1) = b.take (k + 1) := by
  rw [List.take_add_one, List.take_add_one, h, hx, hy, e]
theorem take_all {α : Type} {a b : List α} {k : Nat} (h : a.take k = b.take k) (h1 : a.length ≤ k) (h2 : b.length ≤ k) : a = b := by
  rwa [List.take_of_length_le h1, List.take_of_length_le h2] at h
def cmpI (x y : Int) : Int := if x < y then -1 else if y < x then 1 else 0
def orI (l : List Int) : Int := (l.find? (fun x => decide (x ≠ 0))).getD 0
theorem or_step {l : List Int} {k : Nat} {x : Int} (h : ∀ y ∈ l.take k, y = 0) (hx : l[k]? = some x) (e : x = 0) : ∀ y ∈ l.take (k + 1), y = 0 := fun y hy => by
  rw [List.take_add_one, hx, List.mem_append] at hy
  rcases hy with hy | hy
  · exact h y hy
  · simp at hy; rw [hy, e]
theorem or_find {l : List Int} {k : Nat} (h : ∀ y ∈ l.take k, y = 0) : l.find? (fun x => decide (x ≠ 0)) = (l.drop k).find? (fun x => decide (x ≠ 0)) := by
  conv => lhs; rw [← List.take_append_drop k l]
  rw [List.find?_append, List.find?_eq_none.2 fun y hy => by simp [h y hy]]
  rfl
theorem or_found {l : List Int} {k : Nat} {x : Int} (h : ∀ y ∈ l.take k, y = 0) (hx : l[k]? = some x) (e : x ≠ 0) : Value.int .i64 x = .int .i64 (orI l) := by
  have hk : k < l.length := (List.getElem?_eq_some_iff.1 hx).1
  have hd : l.drop k = x :: l.drop (k + 1) := by
    rw [List.drop_eq_getElem_cons hk, (List.getElem?_eq_some_iff.1 hx).2]
  rw [orI, or_find h, hd]
  simp [e]
theorem or_none {l : List Int} {k : Nat} (h : ∀ y ∈ l.take k, y = 0) (hk : l.length ≤ k) : Value.int .i64 0 = .int .i64 (orI l) := by
  rw [orI, or_find h, List.drop_of_length_le hk]; rfl
def cmpK (x y : Key) : Int := if x.1 < y.1 ∨ x.1 = y.1 ∧ x.2 < y.2 then -1 else if x = y then 0 else 1
def kLt (x y : Key) : Prop := x.1 < y.1 ∨ x.1 = y.1 ∧ x.2 < y.2
instance (x y : Key) : Decidable (kLt x y) := inferInstanceAs (Decidable (_ ∨ _))
theorem notin_step {α : Type} {l : List α} {x y : α} {k : Nat} (h : x ∉ l.take k) (hy : l[k]? = some y) (hn : ¬ x = y) : x ∉ l.take (k + 1) := fun hm => by
  rw [List.take_add_one, hy, List.mem_append] at hm
  rcases hm with hm | hm
  · exact h hm
  · simp at hm; exact hn hm
/-- Keys, rising, each once. -/
def insK : List Key → Key → List Key
  | [], x => [x]
  | y :: o, x => if cmpK y x < 0 then y :: insK o x else if y = x then y :: o else x :: y :: o
def keysOf (l : List Key) : List Key := l.foldl insK []
theorem ins_same : ∀ {o : List Key} {j : Nat} {x : Key}, (∀ y ∈ o.take j, cmpK y x < 0) → o[j]? = some x → insK o x = o
  | [], j, x, _, h => by simp at h
  | y :: o, 0, x, _, h => by
    simp at h; subst h
    have : ¬ cmpK y y < 0 := by simp [cmpK]
    simp [insK, this]
  | y :: o, j + 1, x, ht, h => by
    have h1 := ht y (by simp)
    simp only [insK, h1, if_true]
    rw [ins_same (j := j) (fun z hz => ht z (by simp [hz])) (by simpa using h)]
theorem ins_new : ∀ {o : List Key} {j : Nat} {x : Key}, (∀ y ∈ o.take j, cmpK y x < 0) → (∀ y, o[j]? = some y → ¬ cmpK y x < 0) → o[j]? ≠ some x → insK o x = o.take j ++ [x] ++ o.drop j
  | [], j, x, _, _, _ => by simp [insK]
  | y :: o, 0, x, _, hs, hn => by
    have h1 := hs y rfl
    have h2 : y ≠ x := fun e => hn (by simp [e])
    simp [insK, h1, h2]
  | y :: o, j + 1, x, ht, hs, hn => by
    have h1 := ht y (by simp)
    simp only [insK, h1, if_true, List.take_succ_cons, List.drop_succ_cons, List.cons_append]
    rw [ins_new (j := j) (fun z hz => ht z (by simp [hz])) (fun z hz => hs z (by simpa using hz)) (by simpa using hn)]
theorem keys_step {l : List Key} {i : Nat} {x : Key} (h : l[i]? = some x) : keysOf (l.take (i + 1)) = insK (keysOf (l.take i)) x := by
  unfold keysOf
  rw [List.take_add_one, h, List.foldl_append]; rfl
theorem lt_step {α : Type} {p : α → Prop} {o : List α} {j : Nat} {y : α} (h : ∀ y ∈ o.take j, p y) (hy : o[j]? = some y) (hp : p y) : ∀ y ∈ o.take (j + 1), p y := fun z hz => by
  rw [List.take_add_one, hy, List.mem_append] at hz
  rcases hz with hz | hz
  · exact h z hz
  · simp at hz; rw [hz]; exact hp
theorem ins_len : ∀ (o : List Key) (x : Key), (insK o x).length ≤ o.length + 1
  | [], x => by simp [insK]
  | y :: o, x => by
    have := ins_len o x
    unfold insK
    split
    · simp; exact this
    · split <;> simp
theorem keysOf_len (l : List Key) : (keysOf l).length ≤ l.length := by
  have : ∀ (l : List Key) (o : List Key), (l.foldl insK o).length ≤ o.length + l.length := fun l => by
    induction l with
    | nil => intro o; simp
    | cons x l ih => intro o; have h1 := ih (insK o x); have h2 := ins_len o x; simp only [List.foldl_cons, List.length_cons]; omega
  have := this l []
  simpa [keysOf] using this
theorem orI_cmp' (a b : Key) : orI [cmpI a.1 b.1, cmpI a.2 b.2] = cmpK a b := by
  obtain ⟨a1, a2⟩ := a
  obtain ⟨b1, b2⟩ := b
  simp only [orI, cmpI, cmpK, Prod.mk.injEq]
  rcases Int.lt_trichotomy a1 b1 with h | h | h
  · simp [h]
  · subst h
    rcases Int.lt_trichotomy a2 b2 with h | h | h
    · simp [h]
    · subst h; simp
    · have h1 : ¬ a2 < b2 := by omega
      have h2 : ¬ a2 = b2 := by omega
      simp [h, h1, h2]
  · have h1 : ¬ a1 < b1 := by omega
    have h2 : ¬ a1 = b1 := by omega
    simp [h, h1, h2]
theorem orI_cmp (a b : Key) : Value.int .i64 (orI [cmpI a.1 b.1, cmpI a.2 b.2]) = .int .i64 (cmpK a b) := by rw [orI_cmp']
end Go.Proofs.Ythmhbonhagjnnaa
