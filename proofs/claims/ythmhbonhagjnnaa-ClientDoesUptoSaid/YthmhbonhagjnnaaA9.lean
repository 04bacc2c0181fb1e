/- Procedures: keys that rise; all instructions. -/
import Derived.Test.YthmhbonhagjnnaaProg
import Derived.Test.YthmhbonhagjnnaaA8
import Derived.Test.YthmhbonhagjnnaaWk
import Derived.KernelRfl
namespace Go.Proofs.Ythmhbonhagjnnaa
open Go.RowKit
set_option linter.unusedVariables false
set_option linter.unusedSimpArgs false
theorem has85 : Has Try.prog 85 Try.f85 := ⟨Try.func85, by kernel_rfl, rfl⟩
theorem bs136_1 : ∀ (x0 : Instr), BS Try.prog 136 145 1 [(0, (.agg (InstrE.f x0).toArray))] (InstrE.f x0).toArray := fun _ _ => by kernel_rfl
theorem el145 : El Try.prog 145 5 40 := by unfold El; kernel_rfl
theorem un136 : Try.prog.underlying 136 = some (.slice 145) := by kernel_rfl
theorem fa145_0 : FA Try.prog 145 0 0 := fun _ _ _ => by kernel_rfl
theorem r_rises {vl : Value} {l : List Key} {w : World} (hl : RdE w.heap KeyE vl l) :
    Fn Try.prog 112 #[vl] w fun v w' => v = .bool (risesB l) ∧ Le w w' := by
 refine Fn.enter 21 [(0, _)] Try.func112 rfl rfl rfl rfl ?_
 have hzl := hl.sh.le
 refine W_seq ?_
 refine W_reg (.pure 0 .nil) rfl ?_
 refine LP rfl rfl rfl (xas rfl) ?_
 refine LZ ?_
 refine F_seq ?_
 refine W_seq ?_
 refine W_seq ?_
 refine W_reg (.pure 0 .nil) rfl ?_
 refine LP rfl rfl rfl (xas rfl) ?_
 refine LZ ?_
 refine F_seq ?_
 refine W_block ?_
 refine W_loopv (ι := Nat) (fun k => [(3, .int .i64 (k : Int))]) (fun k w' => Le w w' ∧ 1 ≤ k ∧ risesB (l.take k) = true) (fun k => l.length - k) 1 (hvc rfl hvn) ⟨Le.refl _, Nat.le_refl _, rises_one (by simp; omega)⟩ ?_
 rintro k w1 ⟨hl1, h1, hr⟩
 refine W_seq ?_
 refine W_seq ?_
 refine W_reg (.pure 0 (.pure 1 (.pure 2 (.pure 3 .nil)))) rfl ?_
 refine LP rfl rfl rfl (xmv rfl) ?_
 refine LP rfl rfl rfl (xmv rfl) ?_
 refine LP rfl rfl rfl (xlen un24 hl.sh rfl) ?_
 refine LP rfl rfl rfl (xlss rfl rfl) ?_
 refine LZ ?_
 refine F_seq ?_
 refine W_cond rfl (fun c1 => ?_) (fun c1 => ?_)
 · -- c1 yes
  replace c1 := of_decide_eq_true c1
  obtain ⟨x, hx⟩ : ∃ x, l[k - 1]? = some x := ⟨_, List.getElem?_eq_getElem (by omega)⟩
  obtain ⟨y, hy⟩ : ∃ x, l[k]? = some x := ⟨_, List.getElem?_eq_getElem (by omega)⟩
  refine W_skip ?_
  refine F_seq ?_
  refine W_seq ?_
  refine W_block ?_
  refine W_seq ?_
  refine W_draw (.pure 0 (.pure 1 (.pure 2 (.pure 3 (.still 4 (.pure 5 (.pure 6 (.pure 7 (.still 8 (.one 9 (.pure 10 .nil))))))))))) (Le w1) hfol (by kernel_rfl) (pkt (pkb (pkt (pkt (pkb (pkt pkB)))))) (Le.drew _) ?_
  refine LP rfl rfl rfl (xmv rfl) ?_
  refine LP rfl rfl rfl (xmv rfl) ?_
  refine LP rfl rfl rfl (xsubn rfl rfl (by omega)) ?_
  refine LP rfl rfl rfl (xix (k - 1) un24 sz40 hl.sh rfl rfl (by omega) (by omega)) ?_
  refine LS rfl rfl rfl (fun w' hw' => (xle ag40 (RdE.le (hl1.trans hw') hl) hx rfl)) ?_
  refine LP rfl rfl rfl (xmv rfl) ?_
  refine LP rfl rfl rfl (xmv rfl) ?_
  refine LP rfl rfl rfl (xix k un24 sz40 hl.sh rfl rfl (by omega) (by omega)) ?_
  refine LS rfl rfl rfl (fun w' hw' => (xle ag40 (RdE.le (hl1.trans hw') hl) hy rfl)) ?_
  refine LF rfl rfl rfl has135 rfl (cmp11 (a := x) (b := y)) ?_
  rintro _ w2 ⟨rfl, hl2⟩
  refine ⟨((Le.drew w1).trans hl2), ?_⟩
  refine LP rfl rfl rfl (xgeq rfl rfl) ?_
  refine LZ ?_
  refine F_seq ?_
  refine W_cond rfl (fun c2 => ?_) (fun c2 => ?_)
  · -- c2 yes
   replace c2 := of_decide_eq_true c2
   refine W_seq ?_
   refine W_reg (.pure 0 .nil) rfl ?_
   refine LP rfl rfl rfl (xas rfl) ?_
   refine LZ ?_
   refine F_seq ?_
   refine W_ret ?_
   refine F_ret_block ?_
   refine F_ret_then ?_
   refine F_ret_then ?_
   refine F_ret_block ?_
   refine F_ret_then ?_
   exact F_end1 rfl rfl ⟨_, rfl, by rw [rises_no h1 hx hy (fun h => by have := (cmpK_lt x y).2 h; omega)], (hl1.trans ((Le.drew w1).trans hl2))⟩
  · -- c2 no
   replace c2 := of_decide_eq_false c2
   refine W_skip ?_
   refine F_block ?_
   refine F_seq ?_
   refine W_reg (.pure 0 (.pure 1 (.pure 2 .nil))) rfl ?_
   refine LP rfl rfl rfl (xmv rfl) ?_
   refine LP rfl rfl rfl (xaddn rfl rfl (by omega)) ?_
   refine LP rfl rfl rfl (xas rfl) ?_
   refine LZ ?_
   exact F_roundv (k + 1) ⟨(hl1.trans ((Le.drew w1).trans hl2)), by omega, rises_step h1 hr hx hy ((cmpK_lt _ _).1 (by omega))⟩ (by (try dsimp only); omega) (lk_loop 18 rfl rfl (hvc rfl hvn))
 · -- c1 no
  replace c1 := of_decide_eq_false c1
  refine W_exit ?_
  refine F_exit_then ?_
  refine F_exit_then ?_
  refine F_exit_here ?_
  refine F_seq ?_
  refine W_seq ?_
  refine W_reg (.pure 0 .nil) rfl ?_
  refine LP rfl rfl rfl (xas rfl) ?_
  refine LZ ?_
  refine F_seq ?_
  refine W_ret ?_
  exact F_end1 rfl rfl ⟨_, rfl, by rw [rises_all hr (by omega)], hl1⟩
theorem c_rises {vl : Value} {l : List Key} {w : World} (hl : RdE w.heap KeyE vl l) :
    Fn Try.prog 95 #[vl] w fun v w' => v = .bool (risesB l) ∧ Le w w' := by
 refine Fn.enter 54 [(0, _)] Try.func95 rfl rfl rfl rfl ?_
 have hzl := hl.sh.le
 refine W_seq ?_
 refine W_reg (.pure 0 .nil) rfl ?_
 refine LP rfl rfl rfl (xas rfl) ?_
 refine LZ ?_
 refine F_seq ?_
 refine W_seq ?_
 refine W_seq ?_
 refine W_reg (.pure 0 (.pure 1 (.pure 2 .nil))) rfl ?_
 refine LP rfl rfl rfl (xmv rfl) ?_
 refine LP rfl rfl rfl (xlen un24 hl.sh rfl) ?_
 refine LP rfl rfl rfl (xmv rfl) ?_
 refine LZ ?_
 refine F_seq ?_
 refine W_block ?_
 refine W_loopv (ι := Nat) (fun k => [(6, .int .i64 (k : Int))]) (fun k w' => Le w w' ∧ k ≤ l.length ∧ risesB (l.take k) = true) (fun k => l.length - k) 0 (hvc rfl hvn) ⟨Le.refl _, Nat.zero_le _, rises_one (by simp)⟩ ?_
 rintro k w1 ⟨hl1, hk, hr⟩
 refine W_seq ?_
 refine W_reg (.pure 0 .nil) rfl ?_
 refine LP rfl rfl rfl (xlss rfl rfl) ?_
 refine LZ ?_
 refine F_seq ?_
 refine W_seq ?_
 refine W_cond rfl (fun c1 => ?_) (fun c1 => ?_)
 · -- c1 yes
  replace c1 := of_decide_eq_true c1
  obtain ⟨y, hy⟩ : ∃ x, l[k]? = some x := ⟨_, List.getElem?_eq_getElem (by omega)⟩
  refine W_skip ?_
  refine F_seq ?_
  refine W_seq ?_
  refine W_block ?_
  refine W_seq ?_
  refine W_reg (.pure 0 (.pure 1 .nil)) rfl ?_
  refine LP rfl rfl rfl (xmv rfl) ?_
  refine LP rfl rfl rfl (xas rfl) ?_
  refine LZ ?_
  refine F_seq ?_
  refine W_seq ?_
  refine W_draw (.pure 0 (.pure 1 (.pure 2 (.pure 3 (.pure 4 (.pure 5 (.pure 6 (.still 7 (.pure 8 (.pure 9 (.pure 10 (.pure 11 (.pure 12 (.still 13 (.pure 14 (.pure 15 (.pure 16 (.pure 17 (.pure 18 (.pure 19 (.still 20 (.pure 21 (.pure 22 (.pure 23 (.pure 24 (.pure 25 (.still 26 (.pure 27 (.pure 28 (.pure 29 (.pure 30 (.pure 31 (.pure 32 (.still 33 (.pure 34 (.pure 35 (.pure 36 (.pure 37 (.pure 38 (.still 39 (.pure 40 (.pure 41 (.pure 42 (.pure 43 .nil)))))))))))))))))))))))))))))))))))))))))))) (Le w1) hfol (by kernel_rfl) (pkt (pkb (pkt (pkt (pkb (pkt pkB)))))) (Le.drew _) ?_
  refine LP rfl rfl rfl (xmv rfl) ?_
  refine LP rfl rfl rfl (xgtr rfl rfl) ?_
  refine LP rfl rfl rfl (xmv rfl) ?_
  refine L_split (t := 11) rfl (fun c2 => ?_) (fun c2 => ?_)
  · -- c2 yes
   replace c2 := of_decide_eq_true c2
   obtain ⟨x, hx⟩ : ∃ x, l[k - 1]? = some x := ⟨_, List.getElem?_eq_getElem (by omega)⟩
   refine LP rfl rfl rfl (xmv rfl) ?_
   refine LP rfl rfl rfl (xmv rfl) ?_
   refine LP rfl rfl rfl (xix k un24 sz40 hl.sh rfl rfl (by omega) (by omega)) ?_
   refine LP rfl rfl rfl (xfa fa40_0 rfl) ?_
   refine LS rfl rfl rfl (fun w' hw' => (xlef sc21 (RdE.le (hl1.trans hw') hl) hy rfl rfl)) ?_
   refine LP rfl rfl rfl (xmv rfl) ?_
   refine LP rfl rfl rfl (xmv rfl) ?_
   refine LP rfl rfl rfl (xsubn rfl rfl (by omega)) ?_
   refine LP rfl rfl rfl (xix (k - 1) un24 sz40 hl.sh rfl rfl (by omega) (by omega)) ?_
   refine LP rfl rfl rfl (xfa fa40_0 rfl) ?_
   refine LS rfl rfl rfl (fun w' hw' => (xlef sc21 (RdE.le (hl1.trans hw') hl) hx rfl rfl)) ?_
   refine LP rfl rfl rfl (xlss rfl rfl) ?_
   refine LP rfl rfl rfl (xmv rfl) ?_
   refine L_split (t := 24) rfl (fun c3 => ?_) (fun c3 => ?_)
   · -- c3 yes
    replace c3 := of_decide_eq_true c3
    refine LN rfl rfl rfl ?_
    refine LN rfl rfl rfl ?_
    refine LN rfl rfl rfl ?_
    refine LN rfl rfl rfl ?_
    refine LNs rfl rfl rfl ?_
    refine LN rfl rfl rfl ?_
    refine LN rfl rfl rfl ?_
    refine LN rfl rfl rfl ?_
    refine LN rfl rfl rfl ?_
    refine LN rfl rfl rfl ?_
    refine LNs rfl rfl rfl ?_
    refine LN rfl rfl rfl ?_
    refine LN rfl rfl rfl ?_
    refine LN rfl rfl rfl ?_
    refine LN rfl rfl rfl ?_
    refine LN rfl rfl rfl ?_
    refine LN rfl rfl rfl ?_
    refine LNs rfl rfl rfl ?_
    refine LN rfl rfl rfl ?_
    refine LN rfl rfl rfl ?_
    refine LN rfl rfl rfl ?_
    refine LN rfl rfl rfl ?_
    refine LN rfl rfl rfl ?_
    refine LNs rfl rfl rfl ?_
    refine LN rfl rfl rfl ?_
    refine LN rfl rfl rfl ?_
    refine LP rfl rfl rfl (xpk1 rfl rfl) ?_
    refine LP rfl rfl rfl (xpk1 rfl rfl) ?_
    refine LZ ?_
    refine F_seq ?_
    refine W_if rfl ?_
    refine W_seq ?_
    refine W_reg (.pure 0 .nil) rfl ?_
    refine LP rfl rfl rfl (xas rfl) ?_
    refine LZ ?_
    refine F_seq ?_
    refine W_ret ?_
    refine F_ret_block ?_
    refine F_ret_then ?_
    refine F_ret_then ?_
    refine F_ret_block ?_
    refine F_ret_then ?_
    exact F_end1 rfl rfl ⟨_, rfl, by rw [rises_no (by omega) hx hy (by unfold kLt; omega)], (hl1.trans (Le.drew w1))⟩
   · -- c3 no
    replace c3 := of_decide_eq_false c3
    refine LP rfl rfl rfl (xmv rfl) ?_
    refine LP rfl rfl rfl (xmv rfl) ?_
    refine LP rfl rfl rfl (xix k un24 sz40 hl.sh rfl rfl (by omega) (by omega)) ?_
    refine LP rfl rfl rfl (xfa fa40_0 rfl) ?_
    refine LS rfl rfl rfl (fun w' hw' => (xlef sc21 (RdE.le (hl1.trans hw') hl) hy rfl rfl)) ?_
    refine LP rfl rfl rfl (xmv rfl) ?_
    refine LP rfl rfl rfl (xmv rfl) ?_
    refine LP rfl rfl rfl (xsubn rfl rfl (by omega)) ?_
    refine LP rfl rfl rfl (xix (k - 1) un24 sz40 hl.sh rfl rfl (by omega) (by omega)) ?_
    refine LP rfl rfl rfl (xfa fa40_0 rfl) ?_
    refine LS rfl rfl rfl (fun w' hw' => (xlef sc21 (RdE.le (hl1.trans hw') hl) hx rfl rfl)) ?_
    refine LP rfl rfl rfl (xeql rfl rfl) ?_
    refine LP rfl rfl rfl (xmv rfl) ?_
    refine L_split (t := 37) rfl (fun c5 => ?_) (fun c5 => ?_)
    · -- c5 yes
     replace c5 := of_decide_eq_true c5
     refine LP rfl rfl rfl (xmv rfl) ?_
     refine LP rfl rfl rfl (xmv rfl) ?_
     refine LP rfl rfl rfl (xix k un24 sz40 hl.sh rfl rfl (by omega) (by omega)) ?_
     refine LP rfl rfl rfl (xfa fa40_1 rfl) ?_
     refine LS rfl rfl rfl (fun w' hw' => (xlef sc2 (RdE.le (hl1.trans hw') hl) hy rfl rfl)) ?_
     refine LP rfl rfl rfl (xmv rfl) ?_
     refine LP rfl rfl rfl (xmv rfl) ?_
     refine LP rfl rfl rfl (xsubn rfl rfl (by omega)) ?_
     refine LP rfl rfl rfl (xix (k - 1) un24 sz40 hl.sh rfl rfl (by omega) (by omega)) ?_
     refine LP rfl rfl rfl (xfa fa40_1 rfl) ?_
     refine LS rfl rfl rfl (fun w' hw' => (xlef sc2 (RdE.le (hl1.trans hw') hl) hx rfl rfl)) ?_
     refine LP rfl rfl rfl (xleq rfl rfl) ?_
     refine LP rfl rfl rfl (xpk1 rfl rfl) ?_
     refine LP rfl rfl rfl (xpk0 rfl rfl) ?_
     refine LP rfl rfl rfl (xpk1 rfl rfl) ?_
     refine LZ ?_
     refine F_seq ?_
     refine W_cond rfl (fun c6 => ?_) (fun c6 => ?_)
     · -- c6 yes
      replace c6 := of_decide_eq_true c6
      refine W_seq ?_
      refine W_reg (.pure 0 .nil) rfl ?_
      refine LP rfl rfl rfl (xas rfl) ?_
      refine LZ ?_
      refine F_seq ?_
      refine W_ret ?_
      refine F_ret_block ?_
      refine F_ret_then ?_
      refine F_ret_then ?_
      refine F_ret_block ?_
      refine F_ret_then ?_
      exact F_end1 rfl rfl ⟨_, rfl, by rw [rises_no (by omega) hx hy (by unfold kLt; omega)], (hl1.trans (Le.drew w1))⟩
     · -- c6 no
      replace c6 := of_decide_eq_false c6
      refine W_skip ?_
      refine F_block ?_
      refine F_seq ?_
      refine W_reg (.pure 0 (.pure 1 .nil)) rfl ?_
      refine LP rfl rfl rfl (xaddn rfl rfl (by omega)) ?_
      refine LP rfl rfl rfl (xmv rfl) ?_
      refine LZ ?_
      exact F_roundv (k + 1) ⟨(hl1.trans (Le.drew w1)), by omega, rises_step (by omega) hr hx hy (by unfold kLt; omega)⟩ (by (try dsimp only); omega) (lk_loop 52 rfl rfl (hvc rfl hvn))
    · -- c5 no
     replace c5 := of_decide_eq_false c5
     refine LN rfl rfl rfl ?_
     refine LN rfl rfl rfl ?_
     refine LN rfl rfl rfl ?_
     refine LN rfl rfl rfl ?_
     refine LNs rfl rfl rfl ?_
     refine LN rfl rfl rfl ?_
     refine LN rfl rfl rfl ?_
     refine LN rfl rfl rfl ?_
     refine LN rfl rfl rfl ?_
     refine LN rfl rfl rfl ?_
     refine LNs rfl rfl rfl ?_
     refine LN rfl rfl rfl ?_
     refine LP rfl rfl rfl (xpk0 rfl rfl) ?_
     refine LP rfl rfl rfl (xpk0 rfl rfl) ?_
     refine LP rfl rfl rfl (xpk1 rfl rfl) ?_
     refine LZ ?_
     refine F_seq ?_
     refine W_else rfl ?_
     refine W_skip ?_
     refine F_block ?_
     refine F_seq ?_
     refine W_reg (.pure 0 (.pure 1 .nil)) rfl ?_
     refine LP rfl rfl rfl (xaddn rfl rfl (by omega)) ?_
     refine LP rfl rfl rfl (xmv rfl) ?_
     refine LZ ?_
     exact F_roundv (k + 1) ⟨(hl1.trans (Le.drew w1)), by omega, rises_step (by omega) hr hx hy (by unfold kLt; omega)⟩ (by (try dsimp only); omega) (lk_loop 52 rfl rfl (hvc rfl hvn))
  · -- c2 no
   replace c2 := of_decide_eq_false c2
   refine LN rfl rfl rfl ?_
   refine LN rfl rfl rfl ?_
   refine LN rfl rfl rfl ?_
   refine LN rfl rfl rfl ?_
   refine LNs rfl rfl rfl ?_
   refine LN rfl rfl rfl ?_
   refine LN rfl rfl rfl ?_
   refine LN rfl rfl rfl ?_
   refine LN rfl rfl rfl ?_
   refine LN rfl rfl rfl ?_
   refine LNs rfl rfl rfl ?_
   refine LN rfl rfl rfl ?_
   refine LN rfl rfl rfl ?_
   refine LN rfl rfl rfl ?_
   refine LN rfl rfl rfl ?_
   refine LN rfl rfl rfl ?_
   refine LN rfl rfl rfl ?_
   refine LNs rfl rfl rfl ?_
   refine LN rfl rfl rfl ?_
   refine LN rfl rfl rfl ?_
   refine LN rfl rfl rfl ?_
   refine LN rfl rfl rfl ?_
   refine LN rfl rfl rfl ?_
   refine LNs rfl rfl rfl ?_
   refine LN rfl rfl rfl ?_
   refine LN rfl rfl rfl ?_
   refine LN rfl rfl rfl ?_
   refine LN rfl rfl rfl ?_
   refine LN rfl rfl rfl ?_
   refine LN rfl rfl rfl ?_
   refine LNs rfl rfl rfl ?_
   refine LN rfl rfl rfl ?_
   refine LN rfl rfl rfl ?_
   refine LN rfl rfl rfl ?_
   refine LN rfl rfl rfl ?_
   refine LN rfl rfl rfl ?_
   refine LNs rfl rfl rfl ?_
   refine LN rfl rfl rfl ?_
   refine LN rfl rfl rfl ?_
   refine LN rfl rfl rfl ?_
   refine LP rfl rfl rfl (xpk0 rfl rfl) ?_
   refine LZ ?_
   refine F_seq ?_
   refine W_else rfl ?_
   refine W_skip ?_
   refine F_block ?_
   refine F_seq ?_
   refine W_reg (.pure 0 (.pure 1 .nil)) rfl ?_
   refine LP rfl rfl rfl (xaddn rfl rfl (by omega)) ?_
   refine LP rfl rfl rfl (xmv rfl) ?_
   refine LZ ?_
   exact F_roundv (k + 1) ⟨(hl1.trans (Le.drew w1)), by omega, rises_one (by simp; omega)⟩ (by (try dsimp only); omega) (lk_loop 50 rfl rfl (hvc rfl hvn))
 · -- c1 no
  replace c1 := of_decide_eq_false c1
  refine W_exit ?_
  refine F_exit_then ?_
  refine F_exit_then ?_
  refine F_exit_here ?_
  refine F_seq ?_
  refine W_seq ?_
  refine W_reg (.pure 0 .nil) rfl ?_
  refine LP rfl rfl rfl (xas rfl) ?_
  refine LZ ?_
  refine F_seq ?_
  refine W_ret ?_
  exact F_end1 rfl rfl ⟨_, rfl, by rw [rises_all hr (by omega)], hl1⟩
theorem r_walk {vb : Value} {b : List Int} {w : World} (hb : RdE w.heap ByteE vb b) (hB : ∀ x ∈ b, 0 ≤ x ∧ x ≤ 255) (hn : b.length ≤ 4294967296) :
    Fn Try.prog 140 #[vb] w fun v w' => ∃ vl, v = .tuple #[vl, .int .i64 (walkR b).2] ∧ Le w w' ∧ Ow w' w 145 InstrE vl (walkR b).1 := by
 refine Fn.enter 30 [(0, _)] Try.func140 rfl rfl rfl rfl ?_
 have hzb := hb.sh.le
 refine W_seq ?_
 refine W_reg (.pure 0 (.pure 1 .nil)) rfl ?_
 refine LP rfl rfl rfl (xas rfl) ?_
 refine LP rfl rfl rfl (xas rfl) ?_
 refine LZ ?_
 refine F_seq ?_
 refine W_seq ?_
 refine W_reg (.pure 0 .nil) rfl ?_
 refine LP rfl rfl rfl (xas rfl) ?_
 refine LZ ?_
 refine F_seq ?_
 refine W_seq ?_
 refine W_seq ?_
 refine W_reg (.pure 0 .nil) rfl ?_
 refine LP rfl rfl rfl (xas rfl) ?_
 refine LZ ?_
 refine F_seq ?_
 refine W_block ?_
 refine W_loopv (ι := Nat × Int × Value × (List Instr)) (fun ⟨k, p, vo, acc⟩ => [(4, vo), (5, .int .i64 p)]) (fun ⟨k, p, vo, acc⟩ w' => Le w w' ∧ walkR b = (acc ++ (walkF b k p).1, (walkF b k p).2) ∧ (b.length : Int) - p ≤ k ∧ (acc.length : Int) ≤ p ∧ Ow w' w 145 InstrE vo acc) (fun ⟨k, p, vo, acc⟩ => k) ⟨b.length, 0, .slice none 0 0, []⟩ (hvc rfl (hvc rfl hvn)) ⟨Le.refl _, rfl, by simp, by simp, Ow.nil _ _ _ _⟩ ?_
 rintro ⟨k, p, vo, acc⟩ w1 ⟨hl1, hw, hkp, hap, ho⟩
 show W _ _ _ _ _ ([(4, vo), (5, .int .i64 p)] ++ _) _
 refine W_seq ?_
 refine W_seq ?_
 refine W_reg (.pure 0 (.pure 1 (.pure 2 (.pure 3 .nil)))) rfl ?_
 refine LP rfl rfl rfl (xmv rfl) ?_
 refine LP rfl rfl rfl (xmv rfl) ?_
 refine LP rfl rfl rfl (xlen un22 hb.sh rfl) ?_
 refine LP rfl rfl rfl (xlss rfl rfl) ?_
 refine LZ ?_
 refine F_seq ?_
 refine W_cond rfl (fun c1 => ?_) (fun c1 => ?_)
 · -- c1 yes
  replace c1 := of_decide_eq_true c1
  refine W_skip ?_
  refine F_seq ?_
  refine W_block ?_
  refine W_seq ?_
  refine W_reg (.pure 0 (.pure 1 (.one 2 (.pure 3 (.pure 4 (.pure 5 (.pure 6 (.one 7 (.one 8 (.pure 9 (.pure 10 .nil))))))))))) rfl ?_
  refine LP rfl rfl rfl (xmv rfl) ?_
  refine LP rfl rfl rfl (xmv rfl) ?_
  refine LF rfl rfl rfl has85 rfl (r_one (RdE.le hl1 hb) hB) ?_
  rintro _ w2 ⟨rfl, hl2⟩
  refine ⟨trivial, ?_⟩
  refine LP rfl rfl rfl (xmv rfl) ?_
  refine LP rfl rfl rfl (xext rfl rfl) ?_
  refine LP rfl rfl rfl (xext rfl rfl) ?_
  refine LP rfl rfl rfl (xext rfl rfl) ?_
  refine LT rfl rfl rfl (xal zr145) ?_
  rintro _ w3 ⟨b1, rfl, hl3, hb1, hb1z⟩
  refine ⟨trivial, ?_⟩
  refine LU rfl rfl (xsb sz145 hb1 rfl rfl (agg_cells [.int .i64 ((oneR b p).1).1, .int .i64 ((oneR b p).1).2.1, .int .i64 ((oneR b p).1).2.2.1, .int .i64 ((oneR b p).1).2.2.2.1, .int .i64 ((oneR b p).1).2.2.2.2]) rfl rfl (al_cons rfl (al_cons rfl (al_cons rfl (al_cons rfl (al_cons rfl al_nil)))))) ?_
  rintro w4 ⟨hq1, hb2⟩
  dsimp only [put] at hb2
  refine ⟨trivial, ?_⟩
  refine LP rfl rfl rfl (xas rfl) ?_
  refine LP rfl rfl rfl (xas rfl) ?_
  refine LZ ?_
  refine F_seq ?_
  refine W_seq ?_
  refine W_seq ?_
  refine W_reg (.pure 0 (.pure 1 .nil)) rfl ?_
  refine LP rfl rfl rfl (xmv rfl) ?_
  refine LP rfl rfl rfl (xneq rfl rfl) ?_
  refine LZ ?_
  refine F_seq ?_
  refine W_cond rfl (fun c2 => ?_) (fun c2 => ?_)
  · -- c2 yes
   try simp only [Bool.not_eq_true', Bool.not_eq_false', decide_eq_true_eq, decide_eq_false_iff_not] at c2
   refine W_seq ?_
   refine W_reg (.pure 0 (.pure 1 (.pure 2 (.pure 3 .nil)))) rfl ?_
   refine LP rfl rfl rfl (xmv rfl) ?_
   refine LP rfl rfl rfl (xmv rfl) ?_
   refine LP rfl rfl rfl (xas rfl) ?_
   refine LP rfl rfl rfl (xas rfl) ?_
   refine LZ ?_
   refine F_seq ?_
   refine W_ret ?_
   refine F_ret_then ?_
   refine F_ret_block ?_
   refine F_ret_then ?_
   refine F_ret_block ?_
   refine F_ret_then ?_
   have le1 : Le w w4 := (hq1.le (hl1.trans (hl2.trans hl3)) (inc (Nat.le_trans hl1.size hl2.size) hb1z inn))
   have le2 : Le w1 w4 := (hq1.le (hl2.trans hl3) (inc hl2.size hb1z inn))
   have e := walk_bad hw hkp (by omega) (by simpa using c2)
   exact F_endR (rs := [.tmp 2, .tmp 3]) rfl (.tmp rfl (.tmp rfl .nil)) rfl ⟨_, rfl, vo, (by rw [e]; try rfl), le1, by rw [e]; exact (ho.le le2)⟩
  · -- c2 no
   try simp only [Bool.not_eq_true', Bool.not_eq_false', decide_eq_true_eq, decide_eq_false_iff_not] at c2
   obtain ⟨k', rfl, hw', hkp'⟩ := walk_goes hw hkp (by omega) (by simpa using c2)
   have hone := one_ok (b := b) (p := p) (by simpa using c2)
   refine W_skip ?_
   refine F_seq ?_
   refine W_seq ?_
   refine W_reg (.pure 0 (.one 1 (.one 2 (.one 3 (.pure 4 .nil))))) rfl ?_
   refine LP rfl rfl rfl (xmv rfl) ?_
   refine LX rfl rfl rfl (xlb5 ag145 hb2 rfl rfl rfl rfl rfl rfl) trivial ?_
   refine LT rfl rfl rfl (xbs rfl (bs136_1 ((oneR b p).1))) ?_
   rintro _ w5 ⟨b2, rfl, hl4, hb3, hb3z⟩
   refine ⟨trivial, ?_⟩
   have hr1 : Ow w5 w4 145 InstrE _ [(oneR b p).1] := Ow.of_bk hb3 rfl hb3z (Nat.le_of_ble_eq_true rfl)
   have le3 : Le w1 w4 := (hq1.le (hl2.trans hl3) (inc hl2.size hb1z inn))
   have le4 : Le w w4 := (hq1.le (hl1.trans (hl2.trans hl3)) (inc (Nat.le_trans hl1.size hl2.size) hb1z inn))
   refine LT rfl rfl rfl (xapp (E := InstrE) un136 el145 sz145 rfl (ho.le (le3.trans hl4)) hr1.rd (le4.trans hl4) (by simp only [List.length_append, List.length_take, List.length_drop, List.length_cons, List.length_nil, maxLen]; omega) (by simp only [List.length_append, List.length_take, List.length_drop, List.length_cons, List.length_nil, maxLen]; omega) rfl rfl) ?_
   rintro v2 w6 ⟨hl5, ho1, hg1⟩
   have hk1 := hg1.lx.bk (Ow.ni_new ho hb1z hl2.size) (Le.bk hl4 hb2)
   have hk2 := hg1.lx.ow (Ow.off_new hr1 ho (Nat.le_trans hl2.size (Nat.le_trans hl3.size hq1.size))) hr1
   refine ⟨trivial, ?_⟩
   have hof1 := Apd.off hg1 (Ow.off_old ho hr1 (Nat.le_trans hl2.size (Nat.le_trans hl3.size hq1.size))) (fun i hi => Nat.lt_of_lt_of_le (Ow.lt hr1 i hi) (Nat.le_refl _))
   refine LP rfl rfl rfl (xas rfl) ?_
   refine LZ ?_
   refine F_seq ?_
   refine W_reg (.pure 0 (.pure 1 .nil)) rfl ?_
   refine LP rfl rfl rfl (xmv rfl) ?_
   refine LP rfl rfl rfl (xas rfl) ?_
   refine LZ ?_
   refine F_block ?_
   exact F_roundv ⟨k', _, _, _⟩ ⟨hl5, hw', hkp', by simp only [List.length_append, List.length_cons, List.length_nil]; omega, by simpa using ho1.base (Le.refl _).size⟩ (by (try dsimp only); omega) (lk_loop 23 rfl rfl (hvc rfl (hvc rfl hvn)))
 · -- c1 no
  replace c1 := of_decide_eq_false c1
  refine W_exit ?_
  refine F_exit_then ?_
  refine F_exit_then ?_
  refine F_exit_here ?_
  refine F_seq ?_
  refine W_seq ?_
  refine W_reg (.pure 0 (.pure 1 (.pure 2 .nil))) rfl ?_
  refine LP rfl rfl rfl (xmv rfl) ?_
  refine LP rfl rfl rfl (xas rfl) ?_
  refine LP rfl rfl rfl (xas rfl) ?_
  refine LZ ?_
  refine F_seq ?_
  refine W_ret ?_
  have e := walk_done hw (by omega)
  exact F_endR (rs := [.tmp 2, .tmp 3]) rfl (.tmp rfl (.tmp rfl .nil)) rfl ⟨_, rfl, vo, (by rw [e]; try rfl), hl1, by rw [e]; exact ho⟩
theorem r_begins {p : Int} {vl : Value} {l : List Instr} {w : World} (hl : RdE w.heap InstrE vl l) :
    Fn Try.prog 142 #[vl, .int .i64 p] w fun v w' => v = .bool (beginsB l p) ∧ Le w w' := by
 refine Fn.enter 19 [(0, _), (1, _)] Try.func142 rfl rfl rfl rfl ?_
 have hzl := hl.sh.le
 refine W_seq ?_
 refine W_reg (.pure 0 .nil) rfl ?_
 refine LP rfl rfl rfl (xas rfl) ?_
 refine LZ ?_
 refine F_seq ?_
 refine W_seq ?_
 refine W_seq ?_
 refine W_reg (.pure 0 .nil) rfl ?_
 refine LP rfl rfl rfl (xas rfl) ?_
 refine LZ ?_
 refine F_seq ?_
 refine W_block ?_
 refine W_loopv (ι := Nat) (fun k => [(5, .int .i64 (k : Int))]) (fun k w' => Le w w' ∧ k ≤ l.length ∧ ∀ x ∈ l.take k, x.1 ≠ p) (fun k => l.length - k) 0 (hvc rfl hvn) ⟨Le.refl _, Nat.zero_le _, by simp⟩ ?_
 rintro k w1 ⟨hl1, hk, hnt⟩
 refine W_seq ?_
 refine W_seq ?_
 refine W_reg (.pure 0 (.pure 1 (.pure 2 (.pure 3 .nil)))) rfl ?_
 refine LP rfl rfl rfl (xmv rfl) ?_
 refine LP rfl rfl rfl (xmv rfl) ?_
 refine LP rfl rfl rfl (xlen un136 hl.sh rfl) ?_
 refine LP rfl rfl rfl (xlss rfl rfl) ?_
 refine LZ ?_
 refine F_seq ?_
 refine W_cond rfl (fun c1 => ?_) (fun c1 => ?_)
 · -- c1 yes
  replace c1 := of_decide_eq_true c1
  refine W_skip ?_
  refine F_seq ?_
  refine W_seq ?_
  refine W_block ?_
  refine W_seq ?_
  refine W_reg (.pure 0 (.pure 1 (.pure 2 (.pure 3 (.one 4 (.pure 5 (.pure 6 .nil))))))) rfl ?_
  refine LP rfl rfl rfl (xmv rfl) ?_
  refine LP rfl rfl rfl (xmv rfl) ?_
  obtain ⟨x1, hx1⟩ : ∃ x, l[k]? = some x := ⟨_, List.getElem?_eq_getElem (by omega)⟩
  refine LP rfl rfl rfl (xix k un136 sz145 hl.sh rfl rfl (by omega) (by omega)) ?_
  refine LP rfl rfl rfl (xfa fa145_0 rfl) ?_
  refine LX rfl rfl rfl (xlef sc3 (RdE.le hl1 hl) hx1 rfl rfl) trivial ?_
  refine LP rfl rfl rfl (xmv rfl) ?_
  refine LP rfl rfl rfl (xeql rfl rfl) ?_
  refine LZ ?_
  refine F_seq ?_
  refine W_cond rfl (fun c2 => ?_) (fun c2 => ?_)
  · -- c2 yes
   replace c2 := of_decide_eq_true c2
   refine W_seq ?_
   refine W_reg (.pure 0 .nil) rfl ?_
   refine LP rfl rfl rfl (xas rfl) ?_
   refine LZ ?_
   refine F_seq ?_
   refine W_ret ?_
   refine F_ret_block ?_
   refine F_ret_then ?_
   refine F_ret_then ?_
   refine F_ret_block ?_
   refine F_ret_then ?_
   exact F_end1 rfl rfl ⟨_, rfl, by rw [begins_yes hx1 (by simpa using c2)], hl1⟩
  · -- c2 no
   replace c2 := of_decide_eq_false c2
   refine W_skip ?_
   refine F_block ?_
   refine F_seq ?_
   refine W_reg (.pure 0 (.pure 1 (.pure 2 .nil))) rfl ?_
   refine LP rfl rfl rfl (xmv rfl) ?_
   refine LP rfl rfl rfl (xaddn rfl rfl (by omega)) ?_
   refine LP rfl rfl rfl (xas rfl) ?_
   refine LZ ?_
   exact F_roundv (k + 1) ⟨hl1, by omega, lt_step hnt hx1 (by simpa using c2)⟩ (by (try dsimp only); omega) (lk_loop 14 rfl rfl (hvc rfl hvn))
 · -- c1 no
  replace c1 := of_decide_eq_false c1
  refine W_exit ?_
  refine F_exit_then ?_
  refine F_exit_then ?_
  refine F_exit_here ?_
  refine F_seq ?_
  refine W_seq ?_
  refine W_reg (.pure 0 .nil) rfl ?_
  refine LP rfl rfl rfl (xas rfl) ?_
  refine LZ ?_
  refine F_seq ?_
  refine W_ret ?_
  exact F_end1 rfl rfl ⟨_, rfl, by rw [begins_no hnt (by omega)], hl1⟩
end Go.Proofs.Ythmhbonhagjnnaa
