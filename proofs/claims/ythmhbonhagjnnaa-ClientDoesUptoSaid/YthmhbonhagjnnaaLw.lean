/- A statement's arguments, opened out of the form's reading; a statement's row, closed. -/
import Derived.Test.YthmhbonhagjnnaaRows
import Derived.Test.YthmhbonhagjnnaaCl
import Derived.ProofKit
import Derived.OpenShut
import Derived.JoinedCond
import Derived.Carry
import Derived.ReadAgain
import Derived.Deep.Slices
import Derived.Deep.Fields
import Derived.ChangeBook
import Derived.ChangeStays
namespace Go.Proofs.Ythmhbonhagjnnaa
open Go.ChangeShapes Go.WideShapes Go.ChangeAt Go.RowKit Go.Deep
set_option linter.unusedVariables false
set_option linter.unusedSimpArgs false

/-! ### What is read stays read -/
theorem trodAll_stays {H : Type} {enc : TypeId × Value → H} {P : Program} (hl : laidOutB P = true) {W W' : World} (hb : Below W.heap.size W W') {sp : Nat → Bool} :
    ∀ {ts : List TypeId} {vs : List Value} {ds : List (DataW H)} {ps : List MemPlace}, (ts.all fun t => P.readableRec t && decide (t < P.types.size)) = true →
      DataW.TrodAll enc P W 0 (fun _ => true) true ts vs ds ps → (∀ p ∈ ps, p.block < W.heap.size) → (∀ p ∈ ps, sp p.block = true) → DataW.TrodAll enc P W' 0 sp true ts vs ds ps
  | [], [], [], _, _, h, _, _ => h
  | t :: ts, v :: vs, d :: ds, ps, hr, ⟨p, q, h1, h2, e⟩, hlt, hs => by
    simp only [List.all_cons, Bool.and_eq_true, decide_eq_true_eq] at hr
    obtain ⟨n, hn⟩ := h1
    refine ⟨p, q, ⟨n, ?_⟩, trodAll_stays hl hb (by simpa using hr.2) h2 (fun x hx => hlt x (by rw [e]; simp [hx])) (fun x hx => hs x (by rw [e]; simp [hx])), e⟩
    exact DataW.trod_stays (kids_book hl hr.1.1) (book_sized hr.1.1) (fun h => by cases h) ⟨hr.1.2, book_self t⟩ hn (fun x hx => hb.same (hlt x (by rw [e]; simp [hx]))) (fun x hx => hs x (by rw [e]; simp [hx]))
  | [], [], _ :: _, _, _, h, _, _ => h.elim
  | [], _ :: _, _, _, _, h, _, _ => h.elim
  | _ :: _, [], _, _, _, h, _, _ => h.elim
  | _ :: _, _ :: _, [], _, _, h, _, _ => h.elim
section
variable {H : Type} {enc : TypeId × Value → H} {P : Program}
theorem post_of_below {f : Func} {s : ChangeSpec} {apart fresh handsOn again : Bool} {W W' : World} {args : Array Value} {v : Value} {ds gs : List (DataW H)} {before pa pv : List MemPlace}
    (hW : DataW.Whole enc P f.params.toList s.vars apart W args.toList ds gs before)
    (hres : ∀ (b : Nat) (sp : Nat → Bool) (hd : Bool), DataW.TrodAll enc P W' b sp hd f.resultTypes.toList (v.resultList f.resultTypes.size) (s.fn H (ds ++ gs)).results [])
    (hargs : ∀ sp : Nat → Bool, (∀ p ∈ before, sp p.block = true) → DataW.TrodAll enc P W' 0 sp true f.params.toList args.toList (s.fn H (ds ++ gs)).args pa)
    (hvars : ∀ sp : Nat → Bool, (∀ p ∈ before, sp p.block = true) → DataW.TrodVars enc P W' sp s.vars (s.fn H (ds ++ gs)).vars pv)
    (hps : before = pa ++ pv) (hb : Below W.heap.size W W')
    (hok : ∀ (j : Nat) (t : TypeId) (r : Value), f.resultTypes[j]? = some t → (v.resultList f.resultTypes.size)[j]? = some r → Value.okWide P W' .any 0 t r) :
    s.post enc P f apart fresh handsOn again W args v W' := by
  have hlt : ∀ p ∈ before, p.block < W.heap.size := fun p hp => hW.lt p hp
  have hold : ∀ p ∈ before, (fun b => decide (b < W.heap.size)) p.block = true := fun p hp => by simpa using hlt p hp
  refine ⟨ds, gs, before, [], pa, pv, hW, hres _ _ _, hargs _ hold, hvars _ hold, World.keptBut_mono (fun p hp => ⟨hp, ?_⟩) (hb.frame (· ∈ before)), fun _ => ?_⟩
  · rw [hps, List.mem_append] at hp
    exact Or.inr hp
  · obtain ⟨_, _, _, _, _, hz, hn⟩ := hW
    refine ⟨hok, _, _, ([] ++ pa) ++ pv, ⟨[] ++ pa, pv, trodAll_append (hargs _ (fun _ _ => rfl)) (hres _ _ _), hvars _ (fun _ _ => rfl), rfl, ?_, ?_⟩, ?_⟩
    · intro b off hp
      have hin : MemPlace.cell b off ∈ before := by rw [hps]; simpa using hp
      rw [hb.frozen (hlt _ hin)]
      exact hz b off hin
    · intro ha
      have := hn ha
      rw [hps] at this
      simpa using this
    · intro p hp _
      rw [hps]
      simpa using hp
/-- A statement: the call returns true, and all that was there stands. -/
theorem law_post {f : FuncId} {fn : Func} {s : ChangeSpec} {B : TypeId} {W : World} {args : Array Value} {ds gs : List (DataW H)} {before : List MemPlace} (hl : laidOutB P = true) (hr : (fn.params.toList.all fun t => P.readableRec t && decide (t < P.types.size)) = true)
    (hR : fn.resultTypes = #[B]) (hB : P.underlying B = some .bool) (hvars : s.vars = []) (hfn : s.fn H ds = { results := [.lit (.bool true)], args := ds })
    (hW : DataW.Whole enc P fn.params.toList s.vars false W args.toList ds gs before) (h : Fn P f args W fun v w' => v = .bool true ∧ Le W w') :
    Calls P f args W fun e W' => ∃ v, e = .returned v ∧ s.post enc P fn false true false false W args v W' := by
  refine Calls.mono h fun e W' ⟨v, he, hv, hle⟩ => ⟨v, he, ?_⟩
  subst hv
  have hW' := hW
  obtain ⟨p, q, hA, hV, rfl, hfz, hnd⟩ := hW
  rw [hvars] at hV
  obtain ⟨rfl, rfl⟩ := trodVars_none hV
  simp only [List.append_nil] at hW' hfz
  have hlt : ∀ x ∈ p, x.block < W.heap.size := fun x hx => hW'.lt x hx
  refine post_of_below (pa := p) (pv := []) hW' ?_ ?_ ?_ (by simp) hle.bel ?_
  · intro b sp hd
    rw [List.append_nil, hfn, hR]
    exact trodAll_cons_mk (shut_bool hB _) trodAll_mk0
  · intro sp hs
    rw [List.append_nil, hfn]
    exact trodAll_stays hl hle.bel hr hA hlt hs
  · intro sp hs
    rw [List.append_nil, hfn, hvars]
    rfl
  · exact ok_one hR rfl (okWide_bool_mk hB _)
end

/-! ### Opening -/
def OpnE {α : Type} (P : Program) (e : TypeId) (E : Enc α) (Q : World → α → Prop) (B : α → Nat) : Prop :=
  ∀ (H : Type) (enc : TypeId × Value → H) (w : World) (fuel : Nat) (cs : List Value) (x : DataW H × List MemPlace), DataW.trod enc P w 0 (fun _ => true) true fuel e cs = some x → ∃ a, cs = E.f a ∧ Q w a ∧ B a ≤ Rows.uptoBulk x.1
theorem bulk_one {H : Type} (d : DataW H) : 1 ≤ Rows.uptoBulk d := by
  cases d with
  | lit l => cases l <;> simp [Rows.uptoBulk]
  | _ => simp [Rows.uptoBulk]
theorem bulk_sum {H : Type} {α : Type} (B : α → Nat) : ∀ (l : List α) (D : Nat → DataW H) (k : Nat), (∀ j a, l[j]? = some a → B a ≤ Rows.uptoBulk (D (k + j))) → (l.map B).sum ≤ Rows.uptoBulkAll ((List.range' k l.length).map D)
  | [], D, k, h => by simp
  | a :: l, D, k, h => by
    have ih := bulk_sum B l D (k + 1) fun j b hj => by
      have := h (j + 1) b (by simpa using hj)
      rwa [show k + 1 + j = k + (j + 1) by omega]
    have h0 := h 0 a rfl
    simp only [Nat.add_zero] at h0
    simp only [List.map_cons, List.sum_cons, List.length_cons, List.range'_succ, Rows.uptoBulkAll]
    omega
theorem opn_slice {H : Type} {enc : TypeId × Value → H} {P : Program} {w : World} {fuel : Nat} {cs : List Value} {x : DataW H × List MemPlace} {α : Type} {E : Enc α} {Q : World → α → Prop} {B : α → Nat} {t e : TypeId} (ht : P.underlying t = some (.slice e)) (hk : P.cellsOf e = E.k) (hE : OpnE P e E Q B) (hk0 : Nat.blt 0 E.k = true)
    (h : DataW.trod enc P w 0 (fun _ => true) true fuel t cs = some x) : ∃ v l, cs = [v] ∧ v.oneCell' = true ∧ RdE w.heap E v l ∧ (∀ a ∈ l, Q w a) ∧ (l.map B).sum + 1 ≤ Rows.uptoBulk x.1 := by
  rcases open_slice ht h with ⟨rfl, rfl⟩ | ⟨A, len, cap, m, n, D, Pl, rfl, _, hlc, hcm, hm, rfl, hi⟩
  · exact ⟨_, [], rfl, rfl, RdE.nil _ _, by simp, by simp [Rows.uptoBulk]⟩
  · simp only [if_true] at hm
    subst hm
    have hel : ∀ i, i < m → ∃ a, (∀ j, j < E.k → w.cell? (A.add (i * E.k + j)) = (E.f a)[j]?) ∧ Q w a ∧ B a ≤ Rows.uptoBulk (D i) := fun i him => by
      obtain ⟨cs', hc, ht'⟩ := hi i him
      rw [hk] at hc
      obtain ⟨a, rfl, hQ, hB⟩ := hE H enc w n cs' _ ht'
      obtain ⟨_, _, hat⟩ := World.cells?_some hc
      refine ⟨a, fun j hj => ?_, hQ, hB⟩
      rw [← Go.Deep.add_add]; exact hat j hj
    have hl : ∃ l : List α, l.length = len ∧ ∀ i a, l[i]? = some a → (∀ j, j < E.k → w.cell? (A.add (i * E.k + j)) = (E.f a)[j]?) ∧ Q w a ∧ B a ≤ Rows.uptoBulk (D i) := by
      have key : ∀ n, n ≤ m → ∃ l : List α, l.length = n ∧ ∀ i a, l[i]? = some a → (∀ j, j < E.k → w.cell? (A.add (i * E.k + j)) = (E.f a)[j]?) ∧ Q w a ∧ B a ≤ Rows.uptoBulk (D i) := by
        intro n
        induction n with
        | zero => intro _; exact ⟨[], rfl, by simp⟩
        | succ n ih =>
          intro hn
          obtain ⟨l, hl, hat⟩ := ih (by omega)
          obtain ⟨a, ha⟩ := hel n (by omega)
          refine ⟨l ++ [a], by simp [hl], fun i b hb => ?_⟩
          rcases Nat.lt_or_ge i l.length with h1 | h1
          · rw [List.getElem?_append_left h1] at hb; exact hat i b hb
          · rw [List.getElem?_append_right h1] at hb
            have : i - l.length = 0 := by
              rcases Nat.eq_zero_or_pos (i - l.length) with h0 | h0
              · exact h0
              · have := (List.getElem?_eq_some_iff.1 hb).1; simp at this; omega
            rw [this] at hb
            simp at hb; subst hb
            have : i = n := by omega
            subst this; exact ha
      exact key len hlc
    obtain ⟨l, hll, hat⟩ := hl
    have hkp := Nat.le_of_ble_eq_true hk0
    have hsp : 0 < m → A.spot = none := fun h0 => by
      obtain ⟨a, ha, _⟩ := hel 0 h0
      have h1 := ha 0 hkp
      have h2 : 0 < (E.f a).length := by rw [E.len]; exact hkp
      rw [List.getElem?_eq_getElem h2] at h1
      cases hs : A.spot with
      | none => rfl
      | some s =>
        exfalso
        have hadd : (A.add (0 * E.k + 0)).spot.isSome = true := by unfold Addr.add; split <;> simp_all
        rw [cell_cl] at h1
        unfold cl at h1
        split at h1
        · rw [hadd] at h1; simp at h1
        · cases h1
    refine ⟨_, l, rfl, rfl, ⟨⟨some A, m, by rw [hll], by omega, hcm, fun a ha h0 => by cases ha; exact hsp h0, fun h => by cases h⟩, flat_len E l, fun j u hj => ?_⟩, fun a ha => ?_, ?_⟩
    · rw [flat_get E hkp] at hj
      obtain ⟨a, ha, hu⟩ := Option.bind_eq_some_iff.1 hj
      have hlt := (List.getElem?_eq_some_iff.1 ha).1
      have h1 := (hat _ a ha).1 (j % E.k) (Nat.mod_lt _ hkp)
      rw [Nat.div_add_mod', hu] at h1
      have h0 := hsp (by have := hll; generalize j / E.k = q at hlt; omega)
      rw [cell_cl] at h1
      obtain ⟨bb, bo, bs⟩ := A
      simp only at h0
      subst h0
      rw [add_at] at h1
      simpa [blkOf, offOf] using h1
    · obtain ⟨i, hi⟩ := List.getElem?_of_mem ha
      exact (hat i a hi).2.1
    · have := bulk_sum B l D 0 fun j a hj => by simpa using (hat j a hj).2.2
      rw [hll, ← List.range_eq_range'] at this
      simp only [Rows.uptoBulk]
      omega
theorem opn_len {α : Type} {B : α → Nat} (l : List α) (h : ∀ a, 1 ≤ B a) : l.length ≤ (l.map B).sum := by
  induction l with
  | nil => simp
  | cons a l ih => have := h a; simp only [List.length_cons, List.map_cons, List.sum_cons]; omega

theorem bulk_mem {α : Type} {B : α → Nat} {l : List α} {a : α} (h : a ∈ l) : B a ≤ (l.map B).sum := by
  induction l with
  | nil => cases h
  | cons b l ih =>
    simp only [List.map_cons, List.sum_cons]
    rcases List.mem_cons.1 h with e | e
    · subst e; omega
    · have := ih e; omega

/-! ### The plain types -/
def one' {α : Type} (_ : α) : Nat := 1
def i64ok (x : Int) : Prop := -9223372036854775808 ≤ x ∧ x ≤ 9223372036854775807
theorem wf_i64 {n : Int} (h : (Lit.int .i64 n).wf = true) : i64ok n := by
  simpa [Lit.wf, IntKind.min, IntKind.max, IntKind.signed, IntKind.bits, i64ok] using h
theorem wf_u8 {n : Int} (h : (Lit.int .u8 n).wf = true) : 0 ≤ n ∧ n ≤ 255 := by
  simpa [Lit.wf, IntKind.min, IntKind.max, IntKind.signed, IntKind.bits] using h
theorem opn_i64 {P : Program} {e : TypeId} (he : P.underlying e = some (.int .i64)) : OpnE P e IntE (fun _ x => i64ok x) one' := fun H enc w fuel cs x h => by
  obtain ⟨n, rfl, rfl, hw⟩ := DataW.trod_int he h
  exact ⟨n, rfl, wf_i64 hw, by simp [one', Rows.uptoBulk]⟩
theorem opn_u8 {P : Program} {e : TypeId} (he : P.underlying e = some (.int .u8)) : OpnE P e ByteE (fun _ x => 0 ≤ x ∧ x ≤ 255) one' := fun H enc w fuel cs x h => by
  obtain ⟨n, rfl, rfl, hw⟩ := DataW.trod_int he h
  exact ⟨n, rfl, wf_u8 hw, by simp [one', Rows.uptoBulk]⟩
theorem len1 {α : Type} {cs : List α} (h : cs.length = 1) : ∃ a, cs = [a] := by
  match cs, h with
  | [a], _ => exact ⟨a, rfl⟩
/-- The fields' readings of a struct, one by one. -/
theorem opn_fields {H : Type} {enc : TypeId × Value → H} {P : Program} {w : World} {fuel : Nat} {cs : List Value} {x : DataW H × List MemPlace} {t : TypeId} {fs : Array Field} (ht : P.underlying t = some (.struct fs)) (h : DataW.trod enc P w 0 (fun _ => true) true fuel t cs = some x) :
    ∃ (ys : List (DataW H × List MemPlace)) (n : Nat), x.1 = .agg (ys.map (·.1)) ∧ cs.length = P.cellsOf t ∧ ys.length = fs.size ∧ ∀ (i : Nat) (f : Field), fs[i]? = some f → DataW.trod enc P w 0 (fun _ => true) true n f.type ((cs.drop f.offset).take (P.cellsOf f.type)) = ys[i]? := by
  obtain ⟨ys, n, _, rfl, h1, h2, h3⟩ := DataW.trod_struct ht h
  exact ⟨ys, n, rfl, h1, h2, h3⟩
end Go.Proofs.Ythmhbonhagjnnaa
