/- Stores: into rows of one's own, into blocks; what else stood stands. -/
import Derived.Test.YthmhbonhagjnnaaData
import Derived.Laws.CopyRow
namespace Go.Proofs.Ythmhbonhagjnnaa
open Go.RowKit
set_option linter.unusedVariables false
set_option linter.unusedSimpArgs false

/-- The slice does not lie in the blocks S. -/
def Off (S : List Nat) (v : Value) : Prop := ∀ b, v.ownBlock = some b → b ∉ S
theorem RdE.spot {α : Type} {H : Heap} {E : Enc α} {v : Value} {l : List α} (hr : RdE H E v l) (hl : 0 < l.length) : v.ownBlock = some (blkOf v) := by
  obtain ⟨c, h⟩ := hr.sh.pos hl
  rw [h]; rfl
theorem Lx.rd {α : Type} {S : List Nat} {w w' : World} (h : Lx S w w') {E : Enc α} {v : Value} {l : List α} (hn : Off S v) (hr : RdE w.heap E v l) : RdE w'.heap E v l := by
  refine ⟨hr.sh, hr.len, fun j u hj => h.cl (hr.at_ j u hj) (hn _ (hr.spot ?_))⟩
  rcases Nat.eq_zero_or_pos l.length with h0 | h0
  · rw [List.eq_nil_of_length_eq_zero h0] at hj; simp at hj
  · exact h0
theorem Lx.ow {α : Type} {S : List Nat} {w w' base : World} {e : TypeId} {E : Enc α} {v : Value} {l : List α} (h : Lx S w w') (hn : Off S v) (ho : Ow w base e E v l) : Ow w' base e E v l := by
  obtain ⟨h1, h2⟩ := ho
  refine ⟨h1, ?_⟩
  rcases h2 with h2 | ⟨g, cap, cur, hv, hb, hh, r⟩
  · exact .inl h2
  · exact .inr ⟨g, cap, cur, hv, hb, h.bk (hn g (by rw [hv]; rfl)) hh, r⟩
theorem Ow.off {α : Type} {S : List Nat} {w base : World} {e : TypeId} {E : Enc α} {v : Value} {l : List α} (ho : Ow w base e E v l) (hs : ∀ i ∈ S, i < base.heap.size) : Off S v := fun b hb hm => by
  rcases ho.2 with ⟨rfl, _⟩ | ⟨g, cap, cur, rfl, hg, _⟩
  · cases hb
  · cases hb; have := hs _ hm; simp only at this; omega
theorem Ow.off_of {α : Type} {S : List Nat} {w base : World} {e : TypeId} {E : Enc α} {v : Value} {l : List α} (ho : Ow w base e E v l) (hs : ∀ i ∈ S, w.heap.size ≤ i) : Off S v := fun b hb hm => by
  rcases ho.2 with ⟨rfl, _⟩ | ⟨g, cap, cur, rfl, hg, hh, _⟩
  · cases hb
  · cases hb; have := hs _ hm; have := (Array.getElem?_eq_some_iff.1 hh).1; simp only at *; omega
theorem Ow.blk {α : Type} {w base : World} {e : TypeId} {E : Enc α} {v : Value} {l : List α} (ho : Ow w base e E v l) (hl : 0 < l.length) : base.heap.size ≤ blkOf v ∧ blkOf v < w.heap.size := by
  rcases ho.2 with ⟨rfl, h⟩ | ⟨g, cap, cur, rfl, hg, hh, _⟩
  · omega
  · exact ⟨hg, (Array.getElem?_eq_some_iff.1 hh).1⟩

/-! ### A part of a list is written over -/
def seg {β : Type} (xs : List β) (o : Nat) (vs : List β) : List β := xs.take o ++ vs ++ xs.drop (o + vs.length)
theorem seg_len {β : Type} {xs : List β} {o : Nat} {vs : List β} (h : o + vs.length ≤ xs.length) : (seg xs o vs).length = xs.length := by
  unfold seg; simp only [List.length_append, List.length_take, List.length_drop]; omega
theorem seg_get {β : Type} {xs : List β} {o : Nat} {vs : List β} (h : o + vs.length ≤ xs.length) (i : Nat) : (seg xs o vs)[i]? = if o ≤ i ∧ i < o + vs.length then vs[i - o]? else xs[i]? := by
  unfold seg
  by_cases h1 : i < o
  · rw [List.append_assoc, List.getElem?_append_left (by simp; omega), List.getElem?_take_of_lt h1, if_neg (by omega)]
  · by_cases h2 : i < o + vs.length
    · rw [List.getElem?_append_left (by simp; omega), List.getElem?_append_right (by simp; omega), if_pos (by omega)]
      congr 1; simp; omega
    · rw [List.getElem?_append_right (by simp; omega), List.getElem?_drop, if_neg (by omega)]
      congr 1; simp; omega
theorem flat_get {α : Type} (E : Enc α) (hk : 0 < E.k) (l : List α) (i : Nat) : (l.flatMap E.f)[i]? = (l[i / E.k]?).bind fun x => (E.f x)[i % E.k]? := by
  by_cases hi : i / E.k < l.length
  · rw [List.getElem?_eq_getElem hi]
    have hr : i % E.k < (E.f l[i / E.k]).length := by rw [E.len]; exact Nat.mod_lt _ hk
    have := flat_at E l (i / E.k) l[i / E.k] (i % E.k) _ (List.getElem?_eq_getElem hi) (List.getElem?_eq_getElem hr)
    rw [Nat.div_add_mod' i E.k] at this
    rw [this]; simp [hr]
  · have := (Nat.le_div_iff_mul_le hk).1 (Nat.le_of_not_lt hi)
    rw [List.getElem?_eq_none (by rw [flat_len]; exact this), List.getElem?_eq_none (Nat.le_of_not_lt hi)]; rfl
theorem flat_set {α : Type} (E : Enc α) {l : List α} {j f : Nat} {y z : α} {vs : List Value} (hj : l[j]? = some y) (hf : f + vs.length ≤ E.k) (hz : E.f z = seg (E.f y) f vs) (hk : 0 < E.k) :
    (l.set j z).flatMap E.f = seg (l.flatMap E.f) (j * E.k + f) vs := by
  have hlt : j < l.length := (List.getElem?_eq_some_iff.1 hj).1
  have hle : j * E.k + f + vs.length ≤ (l.flatMap E.f).length := by
    rw [flat_len]
    have := Nat.mul_le_mul_right E.k (show j + 1 ≤ l.length from hlt)
    rw [Nat.add_mul] at this; omega
  apply List.ext_getElem?
  intro i
  rw [seg_get hle, flat_get E hk, List.getElem?_set]
  have hi := Nat.div_add_mod' i E.k
  have hm := Nat.mod_lt i hk
  by_cases hq : j = i / E.k
  · rw [if_pos hq]
    simp only [hlt, if_true]
    rw [Option.bind_some, hz, seg_get (by rw [E.len]; exact hf)]
    have e : j * E.k + i % E.k = i := by rw [hq]; exact hi
    by_cases h1 : f ≤ i % E.k ∧ i % E.k < f + vs.length
    · rw [if_pos h1, if_pos (by omega)]; congr 1; omega
    · rw [if_neg h1, if_neg (by omega), flat_get E hk, ← hq, hj]; rfl
  · rw [if_neg hq, flat_get E hk]
    rw [if_neg]
    intro ⟨h1, h2⟩
    rcases Nat.lt_or_gt_of_ne hq with h3 | h3
    · have := Nat.mul_le_mul_right E.k (show j + 1 ≤ i / E.k from h3)
      rw [Nat.add_mul] at this; omega
    · have := Nat.mul_le_mul_right E.k (show i / E.k + 1 ≤ j from h3)
      rw [Nat.add_mul] at this; omega

theorem Lx.setRow (w : World) (g : Nat) (cs : Array Value) : Lx [g] w (w.setRow g cs) :=
  ⟨rfl, rfl, rfl, by simp, Nat.le_refl _, fun k hk hn => setRow_other w g k cs (by simpa using hn)⟩

theorem RdE.dropn {α : Type} {H : Heap} {E : Enc α} {v : Value} {l : List α} {n i : Nat} (h : RdE H E v l) (hi : i ≤ l.length ∧ l.length = n) : RdE H E (subV v i n E.k) (l.drop i) := by
  obtain ⟨h1, rfl⟩ := hi; exact h.drop h1
section ex
variable {P : Program} {s : Sl} {t : TypeId} {w : World}
/-- A store into a block. -/
theorem xstb {t' k b o : Nat} {x y : Operand} {u : Value} {cs cs' : Array Value} {e : TypeId} (hs : ∀ w, (sizeOf t').run P w = .ok k w) (hk : u.cells.size = k) (hb : w.heap[b]? = some (.cells cs e (0, 0))) (hx : ev s x = some (.pointer (some ⟨b, o, none⟩))) (hy : ev s y = some u)
    (hl : o + k ≤ cs.size) (h1 : ∀ v ∈ u.cells.toList, v.oneCell' = true) (hc : cs'.toList = seg cs.toList o u.cells.toList) : ExU P s (.store t' x y) t w fun w' => Lx [b] w w' ∧ w'.heap[b]? = some (.cells cs' e (0, 0)) ∧ w' = w.setRow b cs' := fun ρ hρ d pos af g => by
  have hst := run_storeCells_at P b o e u.cells.toList 0 cs w hb (by simp [hk]; omega) h1
  have he : cs' = (cs.toList.take (o + 0) ++ u.cells.toList ++ cs.toList.drop (o + 0 + u.cells.toList.length)).toArray := by
    apply Array.toList_inj.1; rw [hc]; simp [seg]
  rw [← he] at hst
  refine ⟨_, ?_, Lx.setRow w b cs', setRow_heap w b cs cs' e (0, 0) hb, rfl⟩
  simp only [execOp, hρ x _ hx, hρ y _ hy, Instr.storeAt, Instr.sureAddr, storeVar, Sem.run_bind, Sem.run_pure, Result.andThen_ok, hs w, hk, ne_eq, not_true, if_false, hst]
/-- A store into a row of one's own: a part of an element. -/
theorem xste {α : Type} {E : Enc α} {t' k e f j : Nat} {x y : Operand} {u v : Value} {l : List α} {base : World} {a z : α} (hs : ∀ w, (sizeOf t').run P w = .ok k w) (hk : u.cells.size = k) (ho : Ow w base e E v l) (hj : l[j]? = some a)
    (hx : ev s x = some (.pointer (some ⟨blkOf v, offOf v + j * E.k + f, none⟩))) (hy : ev s y = some u) (hf : f + k ≤ E.k) (hk0 : Nat.blt 0 E.k = true) (hz : E.f z = seg (E.f a) f u.cells.toList) :
    ExU P s (.store t' x y) t w fun w' => Lx v.ownBlock.toList w w' ∧ Ow w' base e E v (l.set j z) := fun ρ hρ d pos af g => by
  have hlt : j < l.length := (List.getElem?_eq_some_iff.1 hj).1
  have hm := Nat.mul_le_mul_right E.k (show j + 1 ≤ l.length from hlt)
  rw [Nat.add_mul, Nat.one_mul] at hm
  have hkl : u.cells.toList.length = k := by simp [hk]
  rcases ho.2 with ⟨hv, h0⟩ | ⟨g', cap, cur, hv, hg, hh, hc, hmx, hsz, ht⟩
  · omega
  · have hcap := Nat.mul_le_mul_right E.k hc
    subst hv
    have h1 : ∀ v ∈ u.cells.toList, v.oneCell' = true := fun v hv => E.one z v (by rw [hz]; unfold seg; simp [hv])
    have hx' : ev s x = some (.pointer (some ⟨g', j * E.k + f, none⟩)) := by simpa [blkOf, offOf] using hx
    obtain ⟨w', hrun, hlx, hbk, he⟩ := xstb (P := P) (t := t) (cs' := (seg cur.toList (j * E.k + f) u.cells.toList).toArray) hs hk hh hx' hy (by omega) h1 rfl ρ hρ d pos af g
    refine ⟨w', hrun, hlx, flat_len E _, .inr ⟨g', cap, _, by simp, hg, hbk, by simpa using hc, hmx, ?_, ?_⟩⟩
    · rw [List.size_toArray, seg_len (by simp; omega)]; simpa using hsz
    · have hf' : f + u.cells.toList.length ≤ E.k := by omega
      rw [flat_set E hj hf' hz (Nat.le_of_ble_eq_true hk0), ← ht, List.length_set]
      apply List.ext_getElem?
      intro i
      have h2 : j * E.k + f + u.cells.toList.length ≤ cur.toList.length := by simp; omega
      by_cases hi : i < l.length * E.k
      · rw [List.getElem?_take_of_lt hi, seg_get h2, seg_get (by simp; omega), List.getElem?_take_of_lt hi]
      · rw [List.getElem?_take_eq_none (by omega), seg_get (by simp; omega), if_neg (by omega), List.getElem?_take_eq_none (by omega)]
/-- A whole element. -/
theorem xst {α : Type} {E : Enc α} {t' e j : Nat} {x y : Operand} {u v : Value} {l : List α} {base : World} {z : α} (hs : ∀ w, (sizeOf t').run P w = .ok E.k w) (ho : Ow w base e E v l) (hj : j < l.length)
    (hx : ev s x = some (.pointer (some ⟨blkOf v, offOf v + j * E.k, none⟩))) (hy : ev s y = some u) (hz : u.cells.toList = E.f z) (hk0 : Nat.blt 0 E.k = true) :
    ExU P s (.store t' x y) t w fun w' => Lx v.ownBlock.toList w w' ∧ Ow w' base e E v (l.set j z) := by
  have hk : u.cells.size = E.k := by rw [← E.len z, ← hz]; simp
  exact xste (f := 0) (a := l[j]) (z := z) hs hk ho (List.getElem?_eq_getElem hj) (by simpa using hx) hy (by omega) hk0 (by rw [hz]; unfold seg; simp [E.len])
theorem agg_cells (vs : List Value) : (Value.agg vs.toArray).cells.toList = vs := by simp [Value.cells]

/-! ### clear behind a place -/
theorem zero_flat {α : Type} (E : Enc α) (hk : 0 < E.k) {z : α} {cs : Array Value} (hz : cs.toList = E.f z) (n : Nat) : (Builtin.zeroCells cs n).toList = (List.replicate n z).flatMap E.f := by
  have hs : cs.size = E.k := by rw [← E.len z, ← hz]; simp
  apply List.ext_getElem?
  intro i
  rw [flat_get E hk]
  simp only [Builtin.zeroCells, hs, Array.toList_map, List.getElem?_map, Array.toList_range]
  by_cases hi : i < n * E.k
  · have hq : i / E.k < n := (Nat.div_lt_iff_lt_mul hk).2 hi
    have hm := Nat.mod_lt i hk
    rw [List.getElem?_range hi, List.getElem?_replicate, if_pos hq]
    simp [← hz, hs, hm]
  · have hq : ¬ i / E.k < n := fun h => hi ((Nat.div_lt_iff_lt_mul hk).1 h)
    rw [List.getElem?_replicate, if_neg hq, List.getElem?_eq_none (by simp; omega)]; rfl
theorem LT0 {N : Nat} {ds : List Deferred} {ops : Array Oper} {C : World → Prop} {Q : Exit → Act → World → Prop} {p : Plan} {i : Nat} {op : Op} {t : TypeId} {pos : String} {af : Array Edge} {g : Option (Nat × Bool)} {R : Value → World → Prop} (hi : ops[i]? = some ⟨none, op, t, pos, af, g⟩) (hg : gok ops s g = true)
    (hv : ExT P s op t w R) (h : ∀ v w', R v w' → C w' ∧ L P N ds ops C Q p s w') : L P N ds ops C Q (.one i p) s w := fun a ha => by
  simp only [wl, wpOp, hi, gok_wanted ha hg, if_true]
  refine .inl ?_
  unfold Oper.wp
  obtain ⟨v, w', he, hR⟩ := hv a.eval (fun _ _ hx => ha.ev hx) none pos af g
  rw [he]
  exact ⟨(h v w' hR).1, (h v w' hR).2 _ ha⟩
theorem xclr {α : Type} {E : Enc α} {t' e j n : Nat} {x : Operand} {v : Value} {l : List α} {base : World} {z : α} {zv : Value} (ht : P.underlying t' = some (.slice e)) (hzv : ∀ w, (zeroValue e).run P w = .ok zv w) (hz : zv.cells.toList = E.f z) (hk0 : Nat.blt 0 E.k = true)
    (ho : Ow w base e E v l) (hj : j ≤ l.length) (hn : l.length = n) (hx : ev s x = some (subV v j n E.k)) :
    ExT P s (.call ⟨.builtin .clear, #[x], #[t']⟩) t w fun _ w' => Lx v.ownBlock.toList w w' ∧ Ow w' base e E v (l.take j ++ List.replicate (n - j) z) := fun ρ hρ d pos af g => by
  have hk : 0 < E.k := Nat.le_of_ble_eq_true hk0
  subst hn
  have hrun : ∀ r w', (Builtin.clear_ #[t'] t #[subV v j l.length E.k]).run P w = .ok r w' → (execOp ρ ⟨d, .call ⟨.builtin .clear, #[x], #[t']⟩, t, pos, af, g⟩).run P w = .ok (.value r) w' := fun r w' h => by
    simp only [execOp, resolve, invoke, builtin, Sem.run_bind, Sem.run_pure, Result.andThen_ok, List.map_toArray, List.map_cons, List.map_nil, hρ x _ hx, h]
  by_cases hjl : j = l.length
  · subst hjl
    obtain ⟨A, c, hv, _⟩ := ho.rd.sh
    refine ⟨.tuple #[], w, hrun _ _ ?_, (Le.refl w).lx, by simpa using ho⟩
    rw [hv]
    simp only [subV, Nat.sub_self]
    generalize (if c = l.length then A else Option.map (fun x => x.add (l.length * E.k)) A) = B
    cases B <;> simp [Builtin.clear_, run_underlying ht]
  · have hlt : j < l.length := by omega
    rcases ho.2 with ⟨hv, h0⟩ | ⟨g', cap, cur, hv, hg, hh, hc, hmx, hsz, ht'⟩
    · omega
    · subst hv
      have hcap := Nat.mul_le_mul_right E.k hc
      have hsub : subV (.slice (some ⟨g', 0, none⟩) l.length cap) j l.length E.k = .slice (some ⟨g', j * E.k, none⟩) (l.length - j) (cap - j) := by
        simp only [subV, show ¬ cap = j by omega, if_false, Option.map_some, add_at, Nat.zero_add]
      have hzl : (Builtin.zeroCells zv.cells (l.length - j)).toList = (List.replicate (l.length - j) z).flatMap E.f := zero_flat E hk hz _
      have hzn : ((List.replicate (l.length - j) z).flatMap E.f).length = (l.length - j) * E.k := by rw [flat_len, List.length_replicate]
      have hsum : j * E.k + (l.length - j) * E.k = l.length * E.k := by rw [← Nat.add_mul, Nat.add_sub_cancel' hj]
      have hst := run_storeCells_at P g' (j * E.k) e ((List.replicate (l.length - j) z).flatMap E.f) 0 cur w hh (by rw [hzn]; omega) (flat_one E _)
      generalize hcs : (cur.toList.take (j * E.k + 0) ++ (List.replicate (l.length - j) z).flatMap E.f ++ cur.toList.drop (j * E.k + 0 + ((List.replicate (l.length - j) z).flatMap E.f).length)).toArray = cs' at hst
      refine ⟨.tuple #[], w.setRow g' cs', hrun _ _ ?_, Lx.setRow w g' cs', flat_len E _, .inr ⟨g', cap, cs', ?_, hg, setRow_heap w g' cur cs' e (0, 0) hh, ?_, hmx, ?_, ?_⟩⟩
      · rw [hsub]
        rw [← hzl] at hst
        obtain ⟨m, hm⟩ : ∃ m, l.length - j = m + 1 := ⟨l.length - j - 1, by omega⟩
        rw [hm] at hst ⊢
        simp [Builtin.clear_, run_underlying ht, hzv, hst]
      · simp; omega
      · simp; omega
      · rw [← hcs]; simp only [List.size_toArray, List.length_append, List.length_take, List.length_drop, hzn, Array.length_toList]; omega
      · have e1 : l.flatMap E.f = (l.take j).flatMap E.f ++ (l.drop j).flatMap E.f := by rw [← List.flatMap_append, List.take_append_drop]
        have hlj : ((l.take j).flatMap E.f).length = j * E.k := by rw [flat_len, List.length_take, Nat.min_eq_left hj]
        have h3 : cur.toList.take (j * E.k) = (l.take j).flatMap E.f := by
          have := congrArg (List.take (j * E.k)) ht'
          rwa [List.take_take, Nat.min_eq_left (Nat.mul_le_mul_right _ hj), e1, List.take_left' hlj] at this
        have hlen : (l.take j ++ List.replicate (l.length - j) z).length = l.length := by simp; omega
        rw [← hcs]; simp only [Nat.add_zero, hlen, List.flatMap_append, h3]
        rw [List.take_left']
        rw [List.length_append, hlj, hzn]; exact hsum
/-- The head of a row of one's own. -/
theorem Ow.head {α : Type} {E : Enc α} {e j : Nat} {v : Value} {l : List α} {base : World} (ho : Ow w base e E v l) (hj : j ≤ l.length) : Ow w base e E (subV v 0 j E.k) (l.take j) := by
  have hlen : (l.take j).length = j := by simp; omega
  rcases ho.2 with ⟨hv, h0⟩ | ⟨g', cap, cur, hv, hg, hh, hc, hmx, hsz, ht⟩
  · have : l = [] := List.eq_nil_of_length_eq_zero h0
    subst this; subst hv
    have : j = 0 := by simpa using hj
    subst this
    exact ⟨by simp, .inl ⟨by simp [subV], by simp⟩⟩
  · subst hv
    refine ⟨flat_len E _, .inr ⟨g', cap, cur, ?_, hg, hh, by omega, hmx, hsz, ?_⟩⟩
    · simp only [subV, hlen, Nat.zero_mul, Nat.sub_zero, Option.map_some, add_at, Nat.add_zero, ite_self]
    · have e1 : l.flatMap E.f = (l.take j).flatMap E.f ++ (l.drop j).flatMap E.f := by rw [← List.flatMap_append, List.take_append_drop]
      have := Nat.mul_le_mul_right E.k hj
      have h2 : (cur.toList.take (l.length * E.k)).take (j * E.k) = ((l.take j).flatMap E.f ++ (l.drop j).flatMap E.f).take (j * E.k) := by rw [ht, e1]
      rw [List.take_take, Nat.min_eq_left this] at h2
      rw [hlen, h2, List.take_append_of_le_length (by rw [flat_len, hlen]; exact Nat.le_refl _), List.take_of_length_le (by rw [flat_len, hlen]; exact Nat.le_refl _)]
end ex
end Go.Proofs.Ythmhbonhagjnnaa
