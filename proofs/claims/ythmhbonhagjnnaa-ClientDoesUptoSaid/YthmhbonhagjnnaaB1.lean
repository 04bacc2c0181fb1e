/- Procedures, decoded by the document. -/
import Derived.Test.YthmhbonhagjnnaaProg
import Derived.Test.YthmhbonhagjnnaaA9
import Derived.KernelRfl
namespace Go.Proofs.Ythmhbonhagjnnaa
open Go.RowKit
set_option linter.unusedVariables false
set_option linter.unusedSimpArgs false
theorem has140 : Has Try.prog 140 Try.f140 := ⟨Try.func140, by kernel_rfl, rfl⟩
theorem has141 : Has Try.prog 141 Try.f141 := ⟨Try.func141, by kernel_rfl, rfl⟩
theorem has142 : Has Try.prog 142 Try.f142 := ⟨Try.func142, by kernel_rfl, rfl⟩
theorem r_decode {vb : Value} {b : List Int} {w : World} (hb : RdE w.heap ByteE vb b) (hB : ∀ x ∈ b, 0 ≤ x ∧ x ≤ 255) (hn : b.length ≤ 4294967296) :
    Fn Try.prog 113 #[vb] w fun v w' => ∃ vl, v = .tuple #[vl, .int .i64 (decodeR b).2] ∧ Le w w' ∧ Ow w' w 145 InstrE vl (decodeR b).1 := by
 refine Fn.enter 41 [(0, _)] Try.func113 rfl rfl rfl rfl ?_
 have hzb := hb.sh.le
 have hzw := walkR_len b
 refine W_seq ?_
 refine W_reg (.pure 0 (.pure 1 .nil)) rfl ?_
 refine LP rfl rfl rfl (xas rfl) ?_
 refine LP rfl rfl rfl (xas rfl) ?_
 refine LZ ?_
 refine F_seq ?_
 refine W_seq ?_
 refine W_seq ?_
 refine W_reg (.pure 0 (.pure 1 (.pure 2 .nil))) rfl ?_
 refine LP rfl rfl rfl (xmv rfl) ?_
 refine LP rfl rfl rfl (xlen un22 hb.sh rfl) ?_
 refine LP rfl rfl rfl (xgtr rfl rfl) ?_
 refine LZ ?_
 refine F_seq ?_
 refine W_cond rfl (fun c1 => ?_) (fun c1 => ?_)
 · -- c1 yes
  replace c1 := of_decide_eq_true c1
  refine W_seq ?_
  refine W_reg (.pure 0 (.pure 1 .nil)) rfl ?_
  refine LP rfl rfl rfl (xas rfl) ?_
  refine LP rfl rfl rfl (xas rfl) ?_
  refine LZ ?_
  refine F_seq ?_
  refine W_ret ?_
  refine F_ret_then ?_
  have e := dec_long (b := b) (by omega)
  exact F_endR (rs := [.tmp 2, .tmp 3]) rfl (.tmp rfl (.tmp rfl .nil)) rfl ⟨_, rfl, (.slice none 0 0), (by rw [e]; try rfl), (Le.refl _), by rw [e]; exact Ow.nil _ _ _ _⟩
 · -- c1 no
  replace c1 := of_decide_eq_false c1
  refine W_skip ?_
  refine F_seq ?_
  refine W_seq ?_
  refine W_reg (.pure 0 (.one 1 (.pure 2 (.pure 3 (.pure 4 (.pure 5 (.pure 6 .nil))))))) rfl ?_
  refine LP rfl rfl rfl (xmv rfl) ?_
  refine LF rfl rfl rfl has140 rfl (r_walk hb hB (by first | omega | (simp only [List.length_append, List.length_take, List.length_drop, List.length_cons, List.length_nil]; omega))) ?_
  rintro _ w1 ⟨vx1, rfl, hl1, ho1⟩
  refine ⟨trivial, ?_⟩
  refine LP rfl rfl rfl (xmv rfl) ?_
  refine LP rfl rfl rfl (xext rfl rfl) ?_
  refine LP rfl rfl rfl (xext rfl rfl) ?_
  refine LP rfl rfl rfl (xas rfl) ?_
  refine LP rfl rfl rfl (xas rfl) ?_
  refine LZ ?_
  refine F_seq ?_
  refine W_seq ?_
  refine W_seq ?_
  refine W_reg (.pure 0 (.pure 1 .nil)) rfl ?_
  refine LP rfl rfl rfl (xmv rfl) ?_
  refine LP rfl rfl rfl (xneq rfl rfl) ?_
  refine LZ ?_
  refine F_seq ?_
  refine W_cond rfl (fun c2 => ?_) (fun c2 => ?_)
  · -- c2 yes
   try simp only [Bool.not_eq_true', Bool.not_eq_false', decide_eq_true_eq, decide_eq_false_iff_not] at c2
   refine W_seq ?_
   refine W_reg (.pure 0 (.pure 1 (.pure 2 .nil))) rfl ?_
   refine LP rfl rfl rfl (xmv rfl) ?_
   refine LP rfl rfl rfl (xas rfl) ?_
   refine LP rfl rfl rfl (xas rfl) ?_
   refine LZ ?_
   refine F_seq ?_
   refine W_ret ?_
   refine F_ret_then ?_
   have e := dec_bad (b := b) (by omega) (by simpa using c2)
   exact F_endR (rs := [.tmp 2, .tmp 3]) rfl (.tmp rfl (.tmp rfl .nil)) rfl ⟨_, rfl, (.slice none 0 0), (by rw [e]; try rfl), hl1, by rw [e]; exact Ow.nil _ _ _ _⟩
  · -- c2 no
   try simp only [Bool.not_eq_true', Bool.not_eq_false', decide_eq_true_eq, decide_eq_false_iff_not] at c2
   have hz : (walkR b).2 = 0 := by simpa using c2
   refine W_skip ?_
   refine F_seq ?_
   refine W_seq ?_
   refine W_seq ?_
   refine W_reg (.pure 0 .nil) rfl ?_
   refine LP rfl rfl rfl (xas rfl) ?_
   refine LZ ?_
   refine F_seq ?_
   refine W_block ?_
   refine W_loopv (ι := Nat) (fun k => [(6, .int .i64 (k : Int))]) (fun k w' => Le w1 w' ∧ k ≤ (walkR b).1.length ∧ ∀ x ∈ (walkR b).1.take k, (jumpR x.2.1 && !beginsB (walkR b).1 x.2.2.2.2) = false) (fun k => (walkR b).1.length - k) 0 (hvc rfl hvn) ⟨Le.refl _, Nat.zero_le _, by simp⟩ ?_
   rintro k w2 ⟨hl2, hk, hnt⟩
   refine W_seq ?_
   refine W_seq ?_
   refine W_reg (.pure 0 (.pure 1 (.pure 2 (.pure 3 .nil)))) rfl ?_
   refine LP rfl rfl rfl (xmv rfl) ?_
   refine LP rfl rfl rfl (xmv rfl) ?_
   refine LP rfl rfl rfl (xlen un136 ho1.rd.sh rfl) ?_
   refine LP rfl rfl rfl (xlss rfl rfl) ?_
   refine LZ ?_
   refine F_seq ?_
   refine W_cond rfl (fun c3 => ?_) (fun c3 => ?_)
   · -- c3 yes
    replace c3 := of_decide_eq_true c3
    refine W_skip ?_
    refine F_seq ?_
    refine W_seq ?_
    refine W_block ?_
    refine W_seq ?_
    refine W_reg (.pure 0 (.pure 1 (.pure 2 (.pure 3 (.one 4 (.one 5 (.pure 6 (.pure 7 (.pure 8 (.pure 9 (.pure 10 (.pure 11 (.one 12 (.one 13 (.pure 14 (.pure 15 .nil)))))))))))))))) rfl ?_
    refine LP rfl rfl rfl (xmv rfl) ?_
    refine LP rfl rfl rfl (xmv rfl) ?_
    obtain ⟨x1, hx1⟩ : ∃ x, ((walkR b).1)[k]? = some x := ⟨_, List.getElem?_eq_getElem (by omega)⟩
    refine LP rfl rfl rfl (xix k un136 sz145 ho1.rd.sh rfl rfl (by omega) (by omega)) ?_
    refine LP rfl rfl rfl (xfa fa145_1 rfl) ?_
    refine LX rfl rfl rfl (xlef sc3 (RdE.le hl2 ho1.rd) hx1 rfl rfl) trivial ?_
    refine LF rfl rfl rfl has141 rfl (r_jumps) ?_
    rintro _ w3 ⟨rfl, hl3⟩
    refine ⟨trivial, ?_⟩
    refine LP rfl rfl rfl (xmv rfl) ?_
    refine L_split (t := 30) rfl (fun c4 => ?_) (fun c4 => ?_)
    · -- c4 yes
     refine LP rfl rfl rfl (xmv rfl) ?_
     refine LP rfl rfl rfl (xmv rfl) ?_
     refine LP rfl rfl rfl (xmv rfl) ?_
     refine LP rfl rfl rfl (xix k un136 sz145 ho1.rd.sh rfl rfl (by omega) (by omega)) ?_
     refine LP rfl rfl rfl (xfa fa145_4 rfl) ?_
     refine LX rfl rfl rfl (xlef sc2 (RdE.le (hl2.trans hl3) ho1.rd) hx1 rfl rfl) trivial ?_
     refine LF rfl rfl rfl has142 rfl (r_begins (RdE.le (hl2.trans hl3) ho1.rd)) ?_
     rintro _ w4 ⟨rfl, hl4⟩
     refine ⟨trivial, ?_⟩
     refine LP rfl rfl rfl (xnot rfl) ?_
     refine LP rfl rfl rfl (xpk1 rfl rfl) ?_
     refine LZ ?_
     refine F_seq ?_
     refine W_cond rfl (fun c5 => ?_) (fun c5 => ?_)
     · -- c5 yes
      try simp only [Bool.not_eq_true', Bool.not_eq_false', decide_eq_true_eq, decide_eq_false_iff_not] at c5
      refine W_seq ?_
      refine W_reg (.pure 0 (.pure 1 .nil)) rfl ?_
      refine LP rfl rfl rfl (xas rfl) ?_
      refine LP rfl rfl rfl (xas rfl) ?_
      refine LZ ?_
      refine F_seq ?_
      refine W_ret ?_
      refine F_ret_block ?_
      refine F_ret_then ?_
      refine F_ret_then ?_
      refine F_ret_block ?_
      refine F_ret_then ?_
      have e := dec_target (b := b) (by omega) hz hx1 (by simpa using c4) (by simpa using c5)
      exact F_endR (rs := [.tmp 2, .tmp 3]) rfl (.tmp rfl (.tmp rfl .nil)) rfl ⟨_, rfl, (.slice none 0 0), (by rw [e]; try rfl), (hl1.trans (hl2.trans (hl3.trans hl4))), by rw [e]; exact Ow.nil _ _ _ _⟩
     · -- c5 no
      try simp only [Bool.not_eq_true', Bool.not_eq_false', decide_eq_true_eq, decide_eq_false_iff_not] at c5
      refine W_skip ?_
      refine F_block ?_
      refine F_seq ?_
      refine W_reg (.pure 0 (.pure 1 (.pure 2 .nil))) rfl ?_
      refine LP rfl rfl rfl (xmv rfl) ?_
      refine LP rfl rfl rfl (xaddn rfl rfl (by omega)) ?_
      refine LP rfl rfl rfl (xas rfl) ?_
      refine LZ ?_
      exact F_roundv (k + 1) ⟨(hl2.trans (hl3.trans hl4)), by omega, lt_step hnt hx1 (by simp [c4, c5])⟩ (by (try dsimp only); omega) (lk_loop 24 rfl rfl (hvc rfl hvn))
    · -- c4 no
     refine LN rfl rfl rfl ?_
     refine LN rfl rfl rfl ?_
     refine LN rfl rfl rfl ?_
     refine LN rfl rfl rfl ?_
     refine LN rfl rfl rfl ?_
     refine LNo rfl rfl rfl trivial ?_
     refine LNo rfl rfl rfl trivial ?_
     refine LN rfl rfl rfl ?_
     refine LP rfl rfl rfl (xpk0 rfl rfl) ?_
     refine LZ ?_
     refine F_seq ?_
     refine W_else rfl ?_
     refine W_skip ?_
     refine F_block ?_
     refine F_seq ?_
     refine W_reg (.pure 0 (.pure 1 (.pure 2 .nil))) rfl ?_
     refine LP rfl rfl rfl (xmv rfl) ?_
     refine LP rfl rfl rfl (xaddn rfl rfl (by omega)) ?_
     refine LP rfl rfl rfl (xas rfl) ?_
     refine LZ ?_
     exact F_roundv (k + 1) ⟨(hl2.trans hl3), by omega, lt_step hnt hx1 (by rw [c4]; rfl)⟩ (by (try dsimp only); omega) (lk_loop 24 rfl rfl (hvc rfl hvn))
   · -- c3 no
    replace c3 := of_decide_eq_false c3
    refine W_exit ?_
    refine F_exit_then ?_
    refine F_exit_then ?_
    refine F_exit_here ?_
    refine F_seq ?_
    refine W_seq ?_
    refine W_reg (.pure 0 (.pure 1 (.pure 2 .nil))) rfl ?_
    refine LP rfl rfl rfl (xmv rfl) ?_
    refine LP rfl rfl rfl (xas rfl) ?_
    refine LP rfl rfl rfl (xas rfl) ?_
    refine LZ ?_
    refine F_seq ?_
    refine W_ret ?_
    have e := dec_ok (b := b) (by omega) hz hnt (by omega)
    exact F_endR (rs := [.tmp 2, .tmp 3]) rfl (.tmp rfl (.tmp rfl .nil)) rfl ⟨_, rfl, vx1, (by rw [e]; try rfl), (hl1.trans hl2), by rw [e]; exact (ho1.le hl2)⟩
end Go.Proofs.Ythmhbonhagjnnaa
