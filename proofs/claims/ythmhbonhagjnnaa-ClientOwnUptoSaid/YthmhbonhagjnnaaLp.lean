/- The script of the statements of layer 25: calls as they lie in memory; the session that every statement of theirs begins with. -/
import Derived.Test.YthmhbonhagjnnaaCl
namespace Go.Proofs.Ythmhbonhagjnnaa
open Go.RowKit
set_option linter.unusedVariables false
set_option linter.unusedSimpArgs false

structure ROp where
  o : LOp
  tc : Value
  ta : Value
  tr : Value
  tw : Value
  x : Value
  k : Value
  p : Value
  one : ∀ u ∈ [tc, ta, tr, tw, x, k, p], u.oneCell' = true
def OpE : Enc ROp := ⟨19, fun r => [.int .i64 r.o.kind, .int .i64 r.o.t.se, .int .i64 r.o.t.rq, r.tc, r.ta, r.tr, r.tw, .int .i64 r.o.rep, .int .i64 r.o.a.se, .int .i64 r.o.a.rq, .int .i64 r.o.a.r.e, r.x, .int .i64 r.o.a.r.slot, .int .i64 r.o.a.r.place, .bool r.o.own, r.k, .int .i64 r.o.fe, .int .i64 r.o.fi, r.p], fun _ => rfl, fun r u hu => by
  have h := r.one
  simp only [List.mem_cons, List.not_mem_nil, or_false] at hu
  rcases hu with rfl | rfl | rfl | rfl | rfl | rfl | rfl | rfl | rfl | rfl | rfl | rfl | rfl | rfl | rfl | rfl | rfl | rfl | rfl <;> first | rfl | exact h _ (by simp)⟩
structure ROk (w : World) (r : ROp) : Prop where
  tc : RdE w.heap ByteE r.tc r.o.t.code
  ta : RdE w.heap IntE r.ta r.o.t.args
  tr : RdE w.heap KeyE r.tr r.o.t.reads
  tw : RdE w.heap KeyE r.tw r.o.t.writes
  x : RdE w.heap IntE r.x r.o.a.r.vals
  k : RdE w.heap KeyE r.k r.o.keys
  p : RdE w.heap PairE r.p r.o.fp
  sm : r.o.small
/-- What is read of a call. -/
structure ROk' (w : World) (r : ROp) : Prop where
  tc : RdE w.heap ByteE r.tc r.o.t.code
  ta : RdE w.heap IntE r.ta r.o.t.args
  tr : RdE w.heap KeyE r.tr r.o.t.reads
  tw : RdE w.heap KeyE r.tw r.o.t.writes
  x : RdE w.heap IntE r.x r.o.a.r.vals
  k : RdE w.heap KeyE r.k r.o.keys
  p : RdE w.heap PairE r.p r.o.fp
  b : ∀ x ∈ r.o.t.code, 0 ≤ x ∧ x ≤ 255
def OB (r : ROp) : Nat := 1 + r.o.t.code.length + r.o.t.args.length + r.o.t.reads.length + r.o.t.writes.length + r.o.a.r.vals.length + r.o.keys.length
theorem ROk'.ok {w : World} {r : ROp} {n : Nat} (h : ROk' w r) (hb : OB r ≤ n) (hn : n ≤ 4294967296) : ROk w r := by
  unfold OB at hb
  exact ⟨h.tc, h.ta, h.tr, h.tw, h.x, h.k, h.p, ⟨⟨by omega, by omega, by omega, by omega⟩, by omega, by omega, h.b⟩⟩
/-- The session of 'live', behind so many ticks. -/
def liveC (k : Nat) : Cli := ⟨3, 3, 1, true, ⟨3, 1, [], [], [], []⟩, k, 1, 0, false, zRes⟩
theorem liveC_0 : submitC (newC 3 3) zTxn 1 = liveC 0 := rfl
theorem liveC_tick {k : Nat} (h : k < 11) : tickC (liveC k) = liveC (k + 1) := by
  have : (liveC k).wait + 1 < 12 := by simp [liveC]; omega
  unfold tickC
  rw [if_neg (by simp [liveC]), if_pos this]
  simp [liveC]
theorem liveC_no {k : Nat} (h : k < 11) : tickS (liveC k) = false := by
  have : ¬ 12 ≤ (liveC k).wait + 1 := by simp [liveC]; omega
  simp [tickS, this]
theorem liveC_ok {k : Nat} (h : k < 12) : (liveC k).ok :=
  ⟨by simp [liveC], by simp [liveC], by simp [liveC], by simp [liveC], by simp [liveC], by simp [liveC]; omega, by simp [liveC], by simp [liveC], ⟨by simp [liveC], by simp [liveC], by simp [liveC], by simp [liveC]⟩, by simp [liveC, zRes]⟩
end Go.Proofs.Ythmhbonhagjnnaa
