/- Sessions: their states; what each call makes of them. Slices that stay readable whatever the blocks S come to hold. -/
import Derived.Test.YthmhbonhagjnnaaWk
import Derived.Test.YthmhbonhagjnnaaVa
namespace Go.Proofs.Ythmhbonhagjnnaa
open Go.RowKit
set_option linter.unusedVariables false
set_option linter.unusedSimpArgs false

structure RdX {α : Type} (S : List Nat) (H : Heap) (E : Enc α) (v : Value) (l : List α) : Prop where
  rd : RdE H E v l
  off : 0 < l.length → blkOf v ∉ S
theorem Lx.rdx {α : Type} {D S : List Nat} {w w' : World} (h : Lx D w w') (hs : ∀ i ∈ D, i ∈ S) {E : Enc α} {v : Value} {l : List α} (r : RdX S w.heap E v l) : RdX S w'.heap E v l := by
  refine ⟨⟨r.rd.sh, r.rd.len, fun j u hj => h.cl (r.rd.at_ j u hj) fun hm => ?_⟩, r.off⟩
  rcases Nat.eq_zero_or_pos l.length with h0 | h0
  · rw [List.eq_nil_of_length_eq_zero h0] at hj; simp at hj
  · exact r.off h0 (hs _ hm)
theorem Le.rdx {α : Type} {S : List Nat} {w w' : World} (h : Le w w') {E : Enc α} {v : Value} {l : List α} (r : RdX S w.heap E v l) : RdX S w'.heap E v l := ⟨RdE.le h r.rd, r.off⟩
theorem RdX.nil {α : Type} (S : List Nat) (H : Heap) (E : Enc α) : RdX S H E (.slice none 0 0) [] := ⟨RdE.nil _ _, by simp⟩
theorem Ow.rdx {α : Type} {S : List Nat} {w base : World} {e : TypeId} {E : Enc α} {v : Value} {l : List α} (ho : Ow w base e E v l) (hs : ∀ i ∈ S, i < base.heap.size) : RdX S w.heap E v l :=
  ⟨ho.rd, fun h0 hm => by have := (ho.blk h0).1; have := hs _ hm; omega⟩
theorem RdE.blk_lt {α : Type} {w : World} {E : Enc α} {v : Value} {l : List α} (r : RdE w.heap E v l) (hk : Nat.blt 0 E.k = true) (h0 : 0 < l.length) : blkOf v < w.heap.size := by
  have hk := Nat.le_of_ble_eq_true hk
  have hl : 0 < (l.flatMap E.f).length := by rw [flat_len]; exact Nat.mul_pos h0 hk
  have := cl_lt (r.at_ 0 _ (List.getElem?_eq_getElem hl))
  exact this
theorem RdE.rdx {α : Type} {S : List Nat} {w : World} {E : Enc α} {v : Value} {l : List α} (r : RdE w.heap E v l) (hk : Nat.blt 0 E.k = true) (hs : ∀ i ∈ S, w.heap.size ≤ i) : RdX S w.heap E v l :=
  ⟨r, fun h0 hm => by have := r.blk_lt hk h0; have := hs _ hm; omega⟩
theorem RdX.of_le {α : Type} {S : List Nat} {w0 w : World} {E : Enc α} {v : Value} {l : List α} (r : RdE w0.heap E v l) (hk : Nat.blt 0 E.k = true) (hl : Le w0 w) (hs : ∀ i ∈ S, w0.heap.size ≤ i) : RdX S w.heap E v l := hl.rdx (r.rdx hk hs)
theorem Lx.rdx2 {α : Type} {D S : List Nat} {w0 w w' : World} (h : Lx D w w') {E : Enc α} {v : Value} {l : List α} (r0 : RdE w0.heap E v l) (hk : Nat.blt 0 E.k = true) (hs : ∀ i ∈ D, w0.heap.size ≤ i ∨ i ∈ S) (r : RdX S w.heap E v l) : RdX S w'.heap E v l := by
  refine ⟨⟨r.rd.sh, r.rd.len, fun j u hj => h.cl (r.rd.at_ j u hj) fun hm => ?_⟩, r.off⟩
  rcases Nat.eq_zero_or_pos l.length with h0 | h0
  · rw [List.eq_nil_of_length_eq_zero h0] at hj; simp at hj
  · rcases hs _ hm with h1 | h1
    · have := r0.blk_lt hk h0; simp only at h1; omega
    · exact r.off h0 h1
theorem ms_nil {S : List Nat} : ∀ i ∈ ([] : List Nat), i ∈ S := by simp
theorem ms_cons {b : Nat} {D S : List Nat} (h : b ∈ S) (r : ∀ i ∈ D, i ∈ S) : ∀ i ∈ b :: D, i ∈ S := fun i hi => by
  rcases List.mem_cons.1 hi with e | e
  · subst e; exact h
  · exact r i e
theorem lt_le {S : List Nat} {w w' : World} (hS : ∀ i ∈ S, i < w.heap.size) (h : w.heap.size ≤ w'.heap.size) : ∀ i ∈ S, i < w'.heap.size := fun i hi => Nat.lt_of_lt_of_le (hS i hi) h

theorem lt_nil {x : Nat} : ∀ i ∈ ([] : List Nat), i < x := by simp
theorem lt_cons {b x : Nat} {D : List Nat} (h : b < x) (r : ∀ i ∈ D, i < x) : ∀ i ∈ b :: D, i < x := fun i hi => by
  rcases List.mem_cons.1 hi with e | e
  · subst e; exact h
  · exact r i e
theorem lt_app {x : Nat} {D S : List Nat} (h : ∀ i ∈ D, i < x) (r : ∀ i ∈ S, i < x) : ∀ i ∈ D ++ S, i < x := fun i hi => by
  rcases List.mem_append.1 hi with e | e
  · exact h i e
  · exact r i e

theorem ge_app {x : Nat} {D S : List Nat} (h : ∀ i ∈ D, x ≤ i) (r : ∀ i ∈ S, x ≤ i) : ∀ i ∈ D ++ S, x ≤ i := fun i hi => by
  rcases List.mem_append.1 hi with e | e
  · exact h i e
  · exact r i e
theorem dr_mem {x : Nat} {D S : List Nat} (h : ∀ i ∈ D, i ∈ S) : ∀ i ∈ D, x ≤ i ∨ i ∈ S := fun i hi => .inr (h i hi)
theorem dr_self {x : Nat} {D : List Nat} : ∀ i ∈ D, x ≤ i ∨ i ∈ D := fun i hi => .inr hi

/-! ### Transactions, results, asks, sessions -/
structure Res where
  e : Int
  vals : List Int
  slot : Int
  place : Int
structure Cli where
  se : Int
  reps : Int
  rq : Int
  pend : Bool
  t : Txn
  wait : Int
  turn : Int
  tok : Int
  any : Bool
  last : Res
structure Txn.small (t : Txn) : Prop where
  c : t.code.length ≤ 4294967296
  a : t.args.length ≤ 4294967296
  r : t.reads.length ≤ 4294967296
  w : t.writes.length ≤ 4294967296
structure Cli.ok (c : Cli) : Prop where
  r1 : 1 ≤ c.reps
  r2 : c.reps ≤ 5
  q1 : 0 ≤ c.rq
  q2 : c.rq ≤ 1099511627776
  w1 : 0 ≤ c.wait
  w2 : c.wait < 12
  t1 : 0 ≤ c.turn
  t2 : c.turn < c.reps
  sm : c.t.small
  lv : c.last.vals.length ≤ 4294967296
def zTxn : Txn := ⟨0, 0, [], [], [], []⟩
def zRes : Res := ⟨0, [], 0, 0⟩
def newC (se reps : Int) : Cli := ⟨se, reps, 0, false, zTxn, 0, 0, 0, false, zRes⟩
def newE (se reps : Int) : Int := if se < 1 ∨ 1099511627776 < se ∨ reps < 1 ∨ 5 < reps then 1 else 0
theorem zTxn_small : zTxn.small := ⟨by simp [zTxn], by simp [zTxn], by simp [zTxn], by simp [zTxn]⟩
theorem newC_ok {se reps : Int} (h : newE se reps = 0) : (newC se reps).ok := by
  have : ¬ (se < 1 ∨ 1099511627776 < se ∨ reps < 1 ∨ 5 < reps) := fun h' => by simp [newE, h'] at h
  exact ⟨by simp [newC]; omega, by simp [newC]; omega, by simp [newC], by simp [newC], by simp [newC], by simp [newC], by simp [newC], by simp [newC]; omega, zTxn_small, by simp [newC, zRes]⟩
def normT (c : Cli) (t : Txn) : Txn := ⟨c.se, c.rq + 1, t.code, t.args, keysOf t.reads, keysOf t.writes⟩
def submitE (c : Cli) (t : Txn) (rep : Int) : Int :=
  if c.pend then 251 else if rep < 0 ∨ c.reps ≤ rep then 1 else if 1099511627776 ≤ c.rq then 6 else checkR (normT c t)
def submitC (c : Cli) (t : Txn) (rep : Int) : Cli := ⟨c.se, c.reps, c.rq + 1, true, normT c t, 0, rep, c.tok, c.any, c.last⟩
theorem submitE_check {c : Cli} {t : Txn} {rep : Int} (h1 : c.pend = false) (h2 : ¬ (rep < 0 ∨ c.reps ≤ rep)) (h3 : ¬ 1099511627776 ≤ c.rq) : submitE c t rep = checkR ⟨c.se, c.rq + 1, t.code, t.args, keysOf t.reads, keysOf t.writes⟩ := by
  simp only [submitE, h1, h2, h3, if_false, Bool.false_eq_true]; rfl
theorem normT_small {c : Cli} {t : Txn} (h : t.small) : (normT c t).small :=
  ⟨h.c, h.a, Nat.le_trans (keysOf_len _) h.r, Nat.le_trans (keysOf_len _) h.w⟩
theorem submit_rep {c : Cli} {t : Txn} {rep : Int} (h : submitE c t rep = 0) : c.pend = false ∧ 0 ≤ rep ∧ rep < c.reps ∧ c.rq < 1099511627776 := by
  unfold submitE at h
  split at h
  · omega
  · rename_i h1
    split at h
    · omega
    · split at h
      · omega
      · exact ⟨by simpa using h1, by omega, by omega, by omega⟩
theorem submitC_ok {c : Cli} {t : Txn} {rep : Int} (hc : c.ok) (ht : t.small) (h : submitE c t rep = 0) : (submitC c t rep).ok := by
  obtain ⟨_, h1, h2, h3⟩ := submit_rep h
  have := hc.q1
  exact ⟨hc.r1, hc.r2, by simp [submitC]; omega, by simp [submitC]; omega, by simp [submitC], by simp [submitC], h1, h2, normT_small ht, hc.lv⟩
def tickS (c : Cli) : Bool := c.pend && decide (12 ≤ c.wait + 1)
def tickC (c : Cli) : Cli := if c.pend = false then c else if c.wait + 1 < 12 then { c with wait := c.wait + 1 } else { c with wait := 0, turn := (c.turn + 1).tmod c.reps }
theorem tickC_ok {c : Cli} (hc : c.ok) : (tickC c).ok := by
  unfold tickC
  split
  · exact hc
  · split
    · exact ⟨hc.r1, hc.r2, hc.q1, hc.q2, by have := hc.w1; simp; omega, by simpa using ‹_›, hc.t1, hc.t2, hc.sm, hc.lv⟩
    · have h1 := hc.r1; have h2 := hc.t1
      refine ⟨hc.r1, hc.r2, hc.q1, hc.q2, by simp, by simp, ?_, ?_, hc.sm, hc.lv⟩
      · simp only; rw [Int.tmod_eq_emod_of_nonneg (by omega)]; exact Int.emod_nonneg _ (by omega)
      · simp only; rw [Int.tmod_eq_emod_of_nonneg (by omega)]; exact Int.emod_lt_of_pos _ (by omega)
theorem tickC_lz {c : Cli} (h : c.any = false → c.last = zRes) : (tickC c).any = false → (tickC c).last = zRes := by
  unfold tickC
  split
  · exact h
  · split <;> exact h
structure Ans where
  se : Int
  rq : Int
  r : Res
def ansE (c : Cli) (a : Ans) : Int := if c.pend = false ∨ a.se ≠ c.se ∨ a.rq ≠ c.rq then 0 else if a.r.slot < 0 ∨ 1099511627776 < a.r.slot then 1 else 0
def ansB (c : Cli) (a : Ans) : Bool := decide (¬ (c.pend = false ∨ a.se ≠ c.se ∨ a.rq ≠ c.rq) ∧ ¬ (a.r.slot < 0 ∨ 1099511627776 < a.r.slot))
def ansC (c : Cli) (a : Ans) : Cli := { c with pend := false, any := true, last := a.r, tok := if c.tok < a.r.slot + 1 then a.r.slot + 1 else c.tok }
theorem ansC_ok {c : Cli} {a : Ans} (hc : c.ok) (ha : a.r.vals.length ≤ 4294967296) : (ansC c a).ok := ⟨hc.r1, hc.r2, hc.q1, hc.q2, hc.w1, hc.w2, hc.t1, hc.t2, hc.sm, ha⟩
def queryE (c : Cli) (rep : Int) (l : List Key) : Int := if rep < 0 ∨ c.reps ≤ rep then 1 else if 4096 < l.length then 3 else 0
def foundE (c : Cli) (e i : Int) : Int := if e ≠ 0 then e else if i < 0 ∨ 1099511627776 < i then 1 else if i < c.tok then 250 else 0
def foundC (c : Cli) (i : Int) : Cli := { c with tok := i }
theorem foundC_ok {c : Cli} {i : Int} (hc : c.ok) : (foundC c i).ok := ⟨hc.r1, hc.r2, hc.q1, hc.q2, hc.w1, hc.w2, hc.t1, hc.t2, hc.sm, hc.lv⟩

/-- A session that lies in block b. -/
structure ClA (S : List Nat) (w : World) (T b : Nat) (c : Cli) (vc va vr vw vl : Value) : Prop where
  hb : w.heap[b]? = some (.cells #[.int .i64 c.se, .int .i64 c.reps, .int .i64 c.rq, .bool c.pend, .int .i64 c.t.se, .int .i64 c.t.rq, vc, va, vr, vw, .int .i64 c.wait, .int .i64 c.turn, .int .i64 c.tok, .bool c.any, .int .i64 c.last.e, vl, .int .i64 c.last.slot, .int .i64 c.last.place] T (0, 0))
  hc : RdX S w.heap ByteE vc c.t.code
  ha : RdX S w.heap IntE va c.t.args
  hr : RdX S w.heap KeyE vr c.t.reads
  hw : RdX S w.heap KeyE vw c.t.writes
  hl : RdX S w.heap IntE vl c.last.vals
def Cl (S : List Nat) (w : World) (T b : Nat) (c : Cli) : Prop := ∃ vc va vr vw vl, ClA S w T b c vc va vr vw vl
theorem Lx.clx {D S : List Nat} {w w' : World} {T b : Nat} {c : Cli} (h : Lx D w w') (hs : ∀ i ∈ D, i ∈ S) (hn : b ∉ D) (k : Cl S w T b c) : Cl S w' T b c := by
  obtain ⟨vc, va, vr, vw, vl, hb, h1, h2, h3, h4, h5⟩ := k
  exact ⟨vc, va, vr, vw, vl, h.bk hn hb, h.rdx hs h1, h.rdx hs h2, h.rdx hs h3, h.rdx hs h4, h.rdx hs h5⟩
theorem Le.clx {S : List Nat} {w w' : World} {T b : Nat} {c : Cli} (h : Le w w') (k : Cl S w T b c) : Cl S w' T b c := by
  obtain ⟨vc, va, vr, vw, vl, hb, h1, h2, h3, h4, h5⟩ := k
  exact ⟨vc, va, vr, vw, vl, h.bk hb, h.rdx h1, h.rdx h2, h.rdx h3, h.rdx h4, h.rdx h5⟩
theorem Cl.lt {S : List Nat} {w : World} {T b : Nat} {c : Cli} (k : Cl S w T b c) : b < w.heap.size := by
  obtain ⟨vc, va, vr, vw, vl, hb, _⟩ := k
  exact bk_lt hb
theorem RdX.more {α : Type} {D S : List Nat} {H : Heap} {w1 : World} {E : Enc α} {v : Value} {l : List α} (r : RdX S H E v l) (h1 : RdE w1.heap E v l) (hk : Nat.blt 0 E.k = true) (hD : ∀ i ∈ D, w1.heap.size ≤ i) : RdX (D ++ S) H E v l :=
  ⟨r.rd, fun h0 hm => by
    rcases List.mem_append.1 hm with h | h
    · have := h1.blk_lt hk h0; have := hD _ h; omega
    · exact r.off h0 h⟩
theorem RdX.less {α : Type} {S S' : List Nat} {H : Heap} {E : Enc α} {v : Value} {l : List α} (r : RdX S' H E v l) (h : ∀ i ∈ S, i ∈ S') : RdX S H E v l := ⟨r.rd, fun h0 hm => r.off h0 (h _ hm)⟩
theorem ClA.less {S S' : List Nat} {w : World} {T b : Nat} {c : Cli} {vc va vr vw vl : Value} (k : ClA S' w T b c vc va vr vw vl) (h : ∀ i ∈ S, i ∈ S') : ClA S w T b c vc va vr vw vl :=
  ⟨k.hb, k.hc.less h, k.ha.less h, k.hr.less h, k.hw.less h, k.hl.less h⟩
theorem Cl.less {S S' : List Nat} {w : World} {T b : Nat} {c : Cli} (k : Cl S' w T b c) (h : ∀ i ∈ S, i ∈ S') : Cl S w T b c := by
  obtain ⟨_, _, _, _, _, k⟩ := k
  exact ⟨_, _, _, _, _, k.less h⟩
def blks4 (a b c d : Value) : List Nat := a.ownBlock.toList ++ (b.ownBlock.toList ++ (c.ownBlock.toList ++ d.ownBlock.toList))
theorem blks4_ge {x : Nat} {a b c d : Value} (h1 : ∀ i ∈ a.ownBlock.toList, x ≤ i) (h2 : ∀ i ∈ b.ownBlock.toList, x ≤ i) (h3 : ∀ i ∈ c.ownBlock.toList, x ≤ i) (h4 : ∀ i ∈ d.ownBlock.toList, x ≤ i) : ∀ i ∈ blks4 a b c d, x ≤ i := fun i hi => by
  simp only [blks4, List.mem_append] at hi
  rcases hi with h | h | h | h
  · exact h1 i h
  · exact h2 i h
  · exact h3 i h
  · exact h4 i h
theorem bk_ne {H : Heap} {b b' : Nat} {c c' : Array Value} {t t' : Nat} {f f' : Nat × Nat} (h : H[b]? = some (.cells c t f)) (h' : H[b']? = some (.cells c' t' f')) (ht : Nat.beq t t' = false) : b ≠ b' := fun e => by
  subst e
  rw [h] at h'
  simp only [Option.some.injEq, Obj.cells.injEq] at h'
  rw [h'.2.1] at ht
  simp at ht
/-- A call of the statements' script. -/
structure LOp where
  kind : Int
  t : Txn
  rep : Int
  a : Ans
  own : Bool
  keys : List Key
  fe : Int
  fi : Int
  fp : List KPair
structure LOp.small (o : LOp) : Prop where
  t : o.t.small
  a : o.a.r.vals.length ≤ 4294967296
  k : o.keys.length ≤ 4294967296
  b : ∀ x ∈ o.t.code, 0 ≤ x ∧ x ≤ 255
/-- A session and what it must be. -/
structure PairI (S : List Nat) (w : World) (bp bc bw : Nat) (c : Cli) : Prop where
  hp : w.heap[bp]? = some (.cells #[.pointer (some ⟨bc, 0, none⟩), .pointer (some ⟨bw, 0, none⟩)] 48 (0, 0))
  hc : Cl S w 116 bc c
  hw : Cl S w 118 bw c
  mp : bp ∈ S
  mc : bc ∈ S
  mw : bw ∈ S
  ok : c.ok
  lz : c.any = false → c.last = zRes
  hS : ∀ i ∈ S, i < w.heap.size
theorem PairI.le {S : List Nat} {w w' : World} {bp bc bw : Nat} {c : Cli} (h : Le w w') (k : PairI S w bp bc bw c) : PairI S w' bp bc bw c :=
  ⟨h.bk k.hp, h.clx k.hc, h.clx k.hw, k.mp, k.mc, k.mw, k.ok, k.lz, lt_le k.hS h.size⟩
theorem blks4_lt {x : Nat} {a b c d : Value} (h1 : ∀ i ∈ a.ownBlock.toList, i < x) (h2 : ∀ i ∈ b.ownBlock.toList, i < x) (h3 : ∀ i ∈ c.ownBlock.toList, i < x) (h4 : ∀ i ∈ d.ownBlock.toList, i < x) : ∀ i ∈ blks4 a b c d, i < x := fun i hi => by
  simp only [blks4, List.mem_append] at hi
  rcases hi with h | h | h | h
  · exact h1 i h
  · exact h2 i h
  · exact h3 i h
  · exact h4 i h
theorem blks4_1 {a b c d : Value} : ∀ i ∈ a.ownBlock.toList, i ∈ blks4 a b c d := fun i hi => by simp only [blks4, List.mem_append]; exact .inl hi
theorem blks4_3 {a b c d : Value} : ∀ i ∈ c.ownBlock.toList, i ∈ blks4 a b c d := fun i hi => by simp only [blks4, List.mem_append]; exact .inr (.inr (.inl hi))
theorem blks4_4 {a b c d : Value} : ∀ i ∈ d.ownBlock.toList, i ∈ blks4 a b c d := fun i hi => by simp only [blks4, List.mem_append]; exact .inr (.inr (.inr hi))
/-- A transaction, a result by value. -/
def TxnX (S : List Nat) (H : Heap) (t : Txn) (v : Value) : Prop := ∃ vc va vr vw, v = .agg #[.int .i64 t.se, .int .i64 t.rq, vc, va, vr, vw] ∧ RdX S H ByteE vc t.code ∧ RdX S H IntE va t.args ∧ RdX S H KeyE vr t.reads ∧ RdX S H KeyE vw t.writes
end Go.Proofs.Ythmhbonhagjnnaa
