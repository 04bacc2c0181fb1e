/- Transactions as they lie in memory. -/
import Derived.Test.YthmhbonhagjnnaaLw
namespace Go.Proofs.Ythmhbonhagjnnaa
open Go.RowKit
set_option linter.unusedVariables false
set_option linter.unusedSimpArgs false

def i32ok (x : Int) : Prop := -2147483648 ≤ x ∧ x ≤ 2147483647
theorem wf_i32 {n : Int} (h : (Lit.int .i32 n).wf = true) : i32ok n := by
  simpa [Lit.wf, IntKind.min, IntKind.max, IntKind.signed, IntKind.bits, i32ok] using h
def kok (k : Key) : Prop := i32ok k.1 ∧ i64ok k.2
structure RTxn where
  t : Txn
  c : Value
  a : Value
  r : Value
  w : Value
  one : ∀ u ∈ [c, a, r, w], u.oneCell' = true
def TxnE : Enc RTxn := ⟨6, fun r => [.int .i64 r.t.se, .int .i64 r.t.rq, r.c, r.a, r.r, r.w], fun _ => rfl, fun r u hu => by
  have h := r.one
  simp only [List.mem_cons, List.not_mem_nil, or_false] at hu
  rcases hu with rfl | rfl | rfl | rfl | rfl | rfl <;> first | rfl | exact h _ (by simp)⟩
structure TOk (W : World) (q : RTxn) : Prop where
  c : RdE W.heap ByteE q.c q.t.code
  a : RdE W.heap IntE q.a q.t.args
  r : RdE W.heap KeyE q.r q.t.reads
  w : RdE W.heap KeyE q.w q.t.writes
  by_ : ∀ x ∈ q.t.code, 0 ≤ x ∧ x ≤ 255
  ai : ∀ x ∈ q.t.args, i64ok x
  rk : ∀ x ∈ q.t.reads, kok x
  wk : ∀ x ∈ q.t.writes, kok x
def TB (r : RTxn) : Nat := 1 + r.t.code.length + r.t.args.length + r.t.reads.length + r.t.writes.length
theorem TB_small {r : RTxn} {n : Nat} (h : TB r ≤ n) (hn : n ≤ 4294967296) : r.t.small := by
  unfold TB at h
  exact ⟨by omega, by omega, by omega, by omega⟩
end Go.Proofs.Ythmhbonhagjnnaa
