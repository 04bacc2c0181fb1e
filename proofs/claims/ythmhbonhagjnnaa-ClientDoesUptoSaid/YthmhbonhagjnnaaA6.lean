/- Procedures: an instruction. -/
import Derived.Test.YthmhbonhagjnnaaProg
import Derived.Test.YthmhbonhagjnnaaA5
import Derived.KernelRfl
namespace Go.Proofs.Ythmhbonhagjnnaa
open Go.RowKit
set_option linter.unusedVariables false
set_option linter.unusedSimpArgs false
theorem has123 : Has Try.prog 123 Try.f123 := ⟨Try.func123, by kernel_rfl, rfl⟩
theorem has124 : Has Try.prog 124 Try.f124 := ⟨Try.func124, by kernel_rfl, rfl⟩
theorem has125 : Has Try.prog 125 Try.f125 := ⟨Try.func125, by kernel_rfl, rfl⟩
theorem fa145_1 : FA Try.prog 145 1 1 := fun _ _ _ => by kernel_rfl
theorem fa145_2 : FA Try.prog 145 2 2 := fun _ _ _ => by kernel_rfl
theorem fa145_3 : FA Try.prog 145 3 3 := fun _ _ _ => by kernel_rfl
theorem fa145_4 : FA Try.prog 145 4 4 := fun _ _ _ => by kernel_rfl
theorem r_wide {op : Int} {w : World} :
    Fn Try.prog 126 #[.int .i64 op] w fun v w' => v = .int .i64 (wideR op) ∧ Le w w' := by
 refine Fn.enter 16 [(0, _)] Try.func126 rfl rfl rfl rfl ?_
 have hr := sizeR_rng op
 refine W_seq ?_
 refine W_reg (.pure 0 .nil) rfl ?_
 refine LP rfl rfl rfl (xas rfl) ?_
 refine LZ ?_
 refine F_seq ?_
 refine W_seq ?_
 refine W_reg (.pure 0 (.one 1 (.pure 2 (.pure 3 .nil)))) rfl ?_
 refine LP rfl rfl rfl (xmv rfl) ?_
 refine LF rfl rfl rfl has123 rfl (r_size) ?_
 rintro _ w1 ⟨rfl, hl1⟩
 refine ⟨trivial, ?_⟩
 refine LP rfl rfl rfl (xsubn rfl rfl (by omega)) ?_
 refine LP rfl rfl rfl (xas rfl) ?_
 refine LZ ?_
 refine F_seq ?_
 refine W_seq ?_
 refine W_seq ?_
 refine W_reg (.pure 0 (.one 1 .nil)) rfl ?_
 refine LP rfl rfl rfl (xmv rfl) ?_
 refine LF rfl rfl rfl has124 rfl (r_first) ?_
 rintro _ w2 ⟨rfl, hl2⟩
 refine ⟨trivial, ?_⟩
 refine LZ ?_
 refine F_seq ?_
 refine W_cond rfl (fun c1 => ?_) (fun c1 => ?_)
 · -- c1 yes
  refine W_reg (.pure 0 (.pure 1 (.pure 2 .nil))) rfl ?_
  refine LP rfl rfl rfl (xmv rfl) ?_
  refine LP rfl rfl rfl (xsubn rfl rfl (by omega)) ?_
  refine LP rfl rfl rfl (xas rfl) ?_
  refine LZ ?_
  refine F_seq ?_
  refine W_seq ?_
  refine W_seq ?_
  refine W_reg (.pure 0 (.one 1 .nil)) rfl ?_
  refine LP rfl rfl rfl (xmv rfl) ?_
  refine LF rfl rfl rfl has125 rfl (r_two) ?_
  rintro _ w3 ⟨rfl, hl3⟩
  refine ⟨trivial, ?_⟩
  refine LZ ?_
  refine F_seq ?_
  refine W_cond rfl (fun c2 => ?_) (fun c2 => ?_)
  · -- c2 yes
   refine W_reg (.pure 0 (.pure 1 (.pure 2 .nil))) rfl ?_
   refine LP rfl rfl rfl (xmv rfl) ?_
   refine LP rfl rfl rfl (xsubn rfl rfl (by omega)) ?_
   refine LP rfl rfl rfl (xas rfl) ?_
   refine LZ ?_
   refine F_seq ?_
   refine W_seq ?_
   refine W_reg (.pure 0 (.pure 1 .nil)) rfl ?_
   refine LP rfl rfl rfl (xmv rfl) ?_
   refine LP rfl rfl rfl (xas rfl) ?_
   refine LZ ?_
   refine F_seq ?_
   refine W_ret ?_
   exact F_end1 rfl rfl ⟨_, rfl, by simp [wideR, *], (hl1.trans (hl2.trans hl3))⟩
  · -- c2 no
   refine W_skip ?_
   refine F_seq ?_
   refine W_seq ?_
   refine W_reg (.pure 0 (.pure 1 .nil)) rfl ?_
   refine LP rfl rfl rfl (xmv rfl) ?_
   refine LP rfl rfl rfl (xas rfl) ?_
   refine LZ ?_
   refine F_seq ?_
   refine W_ret ?_
   exact F_end1 rfl rfl ⟨_, rfl, by simp [wideR, *], (hl1.trans (hl2.trans hl3))⟩
 · -- c1 no
  refine W_skip ?_
  refine F_seq ?_
  refine W_seq ?_
  refine W_seq ?_
  refine W_reg (.pure 0 (.one 1 .nil)) rfl ?_
  refine LP rfl rfl rfl (xmv rfl) ?_
  refine LF rfl rfl rfl has125 rfl (r_two) ?_
  rintro _ w4 ⟨rfl, hl4⟩
  refine ⟨trivial, ?_⟩
  refine LZ ?_
  refine F_seq ?_
  refine W_cond rfl (fun c3 => ?_) (fun c3 => ?_)
  · -- c3 yes
   refine W_reg (.pure 0 (.pure 1 (.pure 2 .nil))) rfl ?_
   refine LP rfl rfl rfl (xmv rfl) ?_
   refine LP rfl rfl rfl (xsubn rfl rfl (by omega)) ?_
   refine LP rfl rfl rfl (xas rfl) ?_
   refine LZ ?_
   refine F_seq ?_
   refine W_seq ?_
   refine W_reg (.pure 0 (.pure 1 .nil)) rfl ?_
   refine LP rfl rfl rfl (xmv rfl) ?_
   refine LP rfl rfl rfl (xas rfl) ?_
   refine LZ ?_
   refine F_seq ?_
   refine W_ret ?_
   exact F_end1 rfl rfl ⟨_, rfl, by simp [wideR, *], (hl1.trans (hl2.trans hl4))⟩
  · -- c3 no
   refine W_skip ?_
   refine F_seq ?_
   refine W_seq ?_
   refine W_reg (.pure 0 (.pure 1 .nil)) rfl ?_
   refine LP rfl rfl rfl (xmv rfl) ?_
   refine LP rfl rfl rfl (xas rfl) ?_
   refine LZ ?_
   refine F_seq ?_
   refine W_ret ?_
   exact F_end1 rfl rfl ⟨_, rfl, by simp [wideR, *], (hl1.trans (hl2.trans hl4))⟩
theorem c_jumps {x : Instr} {w : World} :
    Fn Try.prog 119 #[(.agg (InstrE.f x).toArray)] w fun v w' => v = .bool (jumpR x.2.1) ∧ Le w w' := by
 refine Fn.enter 11 [(0, _)] Try.func119 rfl rfl rfl rfl ?_
 refine W_seq ?_
 refine W_reg (.one 0 (.pure 1 .nil)) rfl ?_
 refine LT rfl rfl rfl (xbox rfl) ?_
 rintro _ w1 ⟨b1, rfl, hl1, hb1, hb1z⟩
 refine ⟨trivial, ?_⟩
 refine LP rfl rfl rfl (xas rfl) ?_
 refine LZ ?_
 refine F_seq ?_
 refine W_seq ?_
 refine W_reg (.pure 0 (.one 1 (.pure 2 (.pure 3 (.pure 4 (.one 5 (.pure 6 (.pure 7 (.pure 8 .nil))))))))) rfl ?_
 refine LP rfl rfl rfl (xfa fa145_1 rfl) ?_
 refine LX rfl rfl rfl (xld sc3 rfl (cl_bk hb1 rfl)) trivial ?_
 refine LP rfl rfl rfl (xeql rfl rfl) ?_
 refine LP rfl rfl rfl (xmv rfl) ?_
 refine L_split (t := 6) rfl (fun c1 => ?_) (fun c1 => ?_)
 · -- c1 yes
  replace c1 := of_decide_eq_true c1
  refine LN rfl rfl rfl ?_
  refine LNo rfl rfl rfl trivial ?_
  refine LN rfl rfl rfl ?_
  refine LP rfl rfl rfl (xpk1 rfl rfl) ?_
  refine LP rfl rfl rfl (xas rfl) ?_
  refine LZ ?_
  refine F_seq ?_
  refine W_ret ?_
  exact F_end1 rfl rfl ⟨_, rfl, by first | (simp [jumpR, *]; done) | grind [jumpR], hl1⟩
 · -- c1 no
  replace c1 := of_decide_eq_false c1
  refine LP rfl rfl rfl (xfa fa145_1 rfl) ?_
  refine LX rfl rfl rfl (xld sc3 rfl (cl_bk hb1 rfl)) trivial ?_
  refine LP rfl rfl rfl (xeql rfl rfl) ?_
  refine LP rfl rfl rfl (xpk0 rfl rfl) ?_
  refine LP rfl rfl rfl (xas rfl) ?_
  refine LZ ?_
  refine F_seq ?_
  refine W_ret ?_
  exact F_end1 rfl rfl ⟨_, rfl, by first | (simp [jumpR, *]; done) | grind [jumpR], hl1⟩
theorem c_index {x : Instr} {w : World} :
    Fn Try.prog 155 #[(.agg (InstrE.f x).toArray)] w fun v w' => v = .bool (!badX x) ∧ Le w w' := by
 refine Fn.enter 41 [(0, _)] Try.func155 rfl rfl rfl rfl ?_
 refine W_seq ?_
 refine W_reg (.one 0 (.pure 1 .nil)) rfl ?_
 refine LT rfl rfl rfl (xbox rfl) ?_
 rintro _ w1 ⟨b1, rfl, hl1, hb1, hb1z⟩
 refine ⟨trivial, ?_⟩
 refine LP rfl rfl rfl (xas rfl) ?_
 refine LZ ?_
 refine F_seq ?_
 refine W_seq ?_
 refine W_reg (.pure 0 (.one 1 (.pure 2 (.pure 3 (.pure 4 (.one 5 (.pure 6 (.pure 7 (.pure 8 (.pure 9 (.one 10 (.pure 11 (.pure 12 (.pure 13 (.pure 14 (.one 15 (.pure 16 (.pure 17 (.pure 18 (.pure 19 (.one 20 (.pure 21 (.pure 22 (.pure 23 (.one 24 (.pure 25 (.pure 26 (.pure 27 (.pure 28 (.one 29 (.pure 30 (.pure 31 (.pure 32 (.pure 33 (.one 34 (.pure 35 (.pure 36 (.pure 37 (.pure 38 .nil))))))))))))))))))))))))))))))))))))))) rfl ?_
 refine LP rfl rfl rfl (xfa fa145_2 rfl) ?_
 refine LX rfl rfl rfl (xld sc3 rfl (cl_bk hb1 rfl)) trivial ?_
 refine LP rfl rfl rfl (xgeq rfl rfl) ?_
 refine LP rfl rfl rfl (xmv rfl) ?_
 refine L_split (t := 6) rfl (fun c1 => ?_) (fun c1 => ?_)
 · -- c1 yes
  replace c1 := of_decide_eq_true c1
  refine LP rfl rfl rfl (xfa fa145_2 rfl) ?_
  refine LX rfl rfl rfl (xld sc3 rfl (cl_bk hb1 rfl)) trivial ?_
  refine LP rfl rfl rfl (xlss rfl rfl) ?_
  refine LP rfl rfl rfl (xpk1 rfl rfl) ?_
  refine LP rfl rfl rfl (xmv rfl) ?_
  refine L_split (t := 11) rfl (fun c2 => ?_) (fun c2 => ?_)
  · -- c2 yes
   replace c2 := of_decide_eq_true c2
   refine LP rfl rfl rfl (xfa fa145_3 rfl) ?_
   refine LX rfl rfl rfl (xld sc3 rfl (cl_bk hb1 rfl)) trivial ?_
   refine LP rfl rfl rfl (xgeq rfl rfl) ?_
   refine LP rfl rfl rfl (xpk1 rfl rfl) ?_
   refine LP rfl rfl rfl (xmv rfl) ?_
   refine L_split (t := 16) rfl (fun c3 => ?_) (fun c3 => ?_)
   · -- c3 yes
    replace c3 := of_decide_eq_true c3
    refine LP rfl rfl rfl (xfa fa145_3 rfl) ?_
    refine LX rfl rfl rfl (xld sc3 rfl (cl_bk hb1 rfl)) trivial ?_
    refine LP rfl rfl rfl (xlss rfl rfl) ?_
    refine LP rfl rfl rfl (xpk1 rfl rfl) ?_
    refine LP rfl rfl rfl (xmv rfl) ?_
    refine L_split (t := 21) rfl (fun c4 => ?_) (fun c4 => ?_)
    · -- c4 yes
     replace c4 := of_decide_eq_true c4
     refine LP rfl rfl rfl (xfa fa145_1 rfl) ?_
     refine LX rfl rfl rfl (xld sc3 rfl (cl_bk hb1 rfl)) trivial ?_
     refine LP rfl rfl rfl (xneq rfl rfl) ?_
     refine LP rfl rfl rfl (xmv rfl) ?_
     refine L_split (t := 25) rfl (fun c5 => ?_) (fun c5 => ?_)
     · -- c5 yes
      try simp only [Bool.not_eq_true', Bool.not_eq_false', decide_eq_true_eq, decide_eq_false_iff_not] at c5
      refine LN rfl rfl rfl ?_
      refine LNo rfl rfl rfl trivial ?_
      refine LN rfl rfl rfl ?_
      refine LP rfl rfl rfl (xpk1 rfl rfl) ?_
      refine LP rfl rfl rfl (xmv rfl) ?_
      refine LN rfl rfl rfl ?_
      refine LNo rfl rfl rfl trivial ?_
      refine LN rfl rfl rfl ?_
      refine LP rfl rfl rfl (xpk1 rfl rfl) ?_
      refine LP rfl rfl rfl (xmv rfl) ?_
      refine LN rfl rfl rfl ?_
      refine LNo rfl rfl rfl trivial ?_
      refine LN rfl rfl rfl ?_
      refine LP rfl rfl rfl (xpk1 rfl rfl) ?_
      refine LP rfl rfl rfl (xpk1 rfl rfl) ?_
      refine LP rfl rfl rfl (xas rfl) ?_
      refine LZ ?_
      refine F_seq ?_
      refine W_ret ?_
      exact F_end1 rfl rfl ⟨_, rfl, by first | (simp [badX, *]; done) | grind [badX], hl1⟩
     · -- c5 no
      try simp only [Bool.not_eq_true', Bool.not_eq_false', decide_eq_true_eq, decide_eq_false_iff_not] at c5
      refine LP rfl rfl rfl (xfa fa145_4 rfl) ?_
      refine LX rfl rfl rfl (xld sc2 rfl (cl_bk hb1 rfl)) trivial ?_
      refine LP rfl rfl rfl (xeql rfl rfl) ?_
      refine LP rfl rfl rfl (xpk0 rfl rfl) ?_
      refine LP rfl rfl rfl (xmv rfl) ?_
      refine L_split (t := 30) rfl (fun c6 => ?_) (fun c6 => ?_)
      · -- c6 yes
       replace c6 := of_decide_eq_true c6
       refine LN rfl rfl rfl ?_
       refine LNo rfl rfl rfl trivial ?_
       refine LN rfl rfl rfl ?_
       refine LP rfl rfl rfl (xpk1 rfl rfl) ?_
       refine LP rfl rfl rfl (xmv rfl) ?_
       refine LN rfl rfl rfl ?_
       refine LNo rfl rfl rfl trivial ?_
       refine LN rfl rfl rfl ?_
       refine LP rfl rfl rfl (xpk1 rfl rfl) ?_
       refine LP rfl rfl rfl (xpk1 rfl rfl) ?_
       refine LP rfl rfl rfl (xas rfl) ?_
       refine LZ ?_
       refine F_seq ?_
       refine W_ret ?_
       exact F_end1 rfl rfl ⟨_, rfl, by first | (simp [badX, *]; done) | grind [badX], hl1⟩
      · -- c6 no
       replace c6 := of_decide_eq_false c6
       refine LP rfl rfl rfl (xfa fa145_4 rfl) ?_
       refine LX rfl rfl rfl (xld sc2 rfl (cl_bk hb1 rfl)) trivial ?_
       refine LP rfl rfl rfl (xeql rfl rfl) ?_
       refine LP rfl rfl rfl (xpk0 rfl rfl) ?_
       refine LP rfl rfl rfl (xmv rfl) ?_
       refine L_split (t := 35) rfl (fun c7 => ?_) (fun c7 => ?_)
       · -- c7 yes
        replace c7 := of_decide_eq_true c7
        refine LN rfl rfl rfl ?_
        refine LNo rfl rfl rfl trivial ?_
        refine LN rfl rfl rfl ?_
        refine LP rfl rfl rfl (xpk1 rfl rfl) ?_
        refine LP rfl rfl rfl (xpk1 rfl rfl) ?_
        refine LP rfl rfl rfl (xas rfl) ?_
        refine LZ ?_
        refine F_seq ?_
        refine W_ret ?_
        exact F_end1 rfl rfl ⟨_, rfl, by first | (simp [badX, *]; done) | grind [badX], hl1⟩
       · -- c7 no
        replace c7 := of_decide_eq_false c7
        refine LP rfl rfl rfl (xfa fa145_4 rfl) ?_
        refine LX rfl rfl rfl (xld sc2 rfl (cl_bk hb1 rfl)) trivial ?_
        refine LP rfl rfl rfl (xeql rfl rfl) ?_
        refine LP rfl rfl rfl (xpk0 rfl rfl) ?_
        refine LP rfl rfl rfl (xpk1 rfl rfl) ?_
        refine LP rfl rfl rfl (xas rfl) ?_
        refine LZ ?_
        refine F_seq ?_
        refine W_ret ?_
        exact F_end1 rfl rfl ⟨_, rfl, by first | (simp [badX, *]; done) | grind [badX], hl1⟩
    · -- c4 no
     replace c4 := of_decide_eq_false c4
     refine LN rfl rfl rfl ?_
     refine LNo rfl rfl rfl trivial ?_
     refine LN rfl rfl rfl ?_
     refine LN rfl rfl rfl ?_
     refine LN rfl rfl rfl ?_
     refine LNo rfl rfl rfl trivial ?_
     refine LN rfl rfl rfl ?_
     refine LN rfl rfl rfl ?_
     refine LN rfl rfl rfl ?_
     refine LN rfl rfl rfl ?_
     refine LNo rfl rfl rfl trivial ?_
     refine LN rfl rfl rfl ?_
     refine LN rfl rfl rfl ?_
     refine LN rfl rfl rfl ?_
     refine LN rfl rfl rfl ?_
     refine LNo rfl rfl rfl trivial ?_
     refine LN rfl rfl rfl ?_
     refine LN rfl rfl rfl ?_
     refine LP rfl rfl rfl (xpk0 rfl rfl) ?_
     refine LP rfl rfl rfl (xas rfl) ?_
     refine LZ ?_
     refine F_seq ?_
     refine W_ret ?_
     exact F_end1 rfl rfl ⟨_, rfl, by first | (simp [badX, *]; done) | grind [badX], hl1⟩
   · -- c3 no
    replace c3 := of_decide_eq_false c3
    refine LN rfl rfl rfl ?_
    refine LNo rfl rfl rfl trivial ?_
    refine LN rfl rfl rfl ?_
    refine LP rfl rfl rfl (xpk0 rfl rfl) ?_
    refine LP rfl rfl rfl (xmv rfl) ?_
    refine LN rfl rfl rfl ?_
    refine LNo rfl rfl rfl trivial ?_
    refine LN rfl rfl rfl ?_
    refine LN rfl rfl rfl ?_
    refine LN rfl rfl rfl ?_
    refine LNo rfl rfl rfl trivial ?_
    refine LN rfl rfl rfl ?_
    refine LN rfl rfl rfl ?_
    refine LN rfl rfl rfl ?_
    refine LN rfl rfl rfl ?_
    refine LNo rfl rfl rfl trivial ?_
    refine LN rfl rfl rfl ?_
    refine LN rfl rfl rfl ?_
    refine LN rfl rfl rfl ?_
    refine LN rfl rfl rfl ?_
    refine LNo rfl rfl rfl trivial ?_
    refine LN rfl rfl rfl ?_
    refine LN rfl rfl rfl ?_
    refine LP rfl rfl rfl (xpk0 rfl rfl) ?_
    refine LP rfl rfl rfl (xas rfl) ?_
    refine LZ ?_
    refine F_seq ?_
    refine W_ret ?_
    exact F_end1 rfl rfl ⟨_, rfl, by first | (simp [badX, *]; done) | grind [badX], hl1⟩
  · -- c2 no
   replace c2 := of_decide_eq_false c2
   refine LN rfl rfl rfl ?_
   refine LNo rfl rfl rfl trivial ?_
   refine LN rfl rfl rfl ?_
   refine LP rfl rfl rfl (xpk0 rfl rfl) ?_
   refine LP rfl rfl rfl (xmv rfl) ?_
   refine LN rfl rfl rfl ?_
   refine LNo rfl rfl rfl trivial ?_
   refine LN rfl rfl rfl ?_
   refine LP rfl rfl rfl (xpk0 rfl rfl) ?_
   refine LP rfl rfl rfl (xmv rfl) ?_
   refine LN rfl rfl rfl ?_
   refine LNo rfl rfl rfl trivial ?_
   refine LN rfl rfl rfl ?_
   refine LN rfl rfl rfl ?_
   refine LN rfl rfl rfl ?_
   refine LNo rfl rfl rfl trivial ?_
   refine LN rfl rfl rfl ?_
   refine LN rfl rfl rfl ?_
   refine LN rfl rfl rfl ?_
   refine LN rfl rfl rfl ?_
   refine LNo rfl rfl rfl trivial ?_
   refine LN rfl rfl rfl ?_
   refine LN rfl rfl rfl ?_
   refine LN rfl rfl rfl ?_
   refine LN rfl rfl rfl ?_
   refine LNo rfl rfl rfl trivial ?_
   refine LN rfl rfl rfl ?_
   refine LN rfl rfl rfl ?_
   refine LP rfl rfl rfl (xpk0 rfl rfl) ?_
   refine LP rfl rfl rfl (xas rfl) ?_
   refine LZ ?_
   refine F_seq ?_
   refine W_ret ?_
   exact F_end1 rfl rfl ⟨_, rfl, by first | (simp [badX, *]; done) | grind [badX], hl1⟩
 · -- c1 no
  replace c1 := of_decide_eq_false c1
  refine LN rfl rfl rfl ?_
  refine LNo rfl rfl rfl trivial ?_
  refine LN rfl rfl rfl ?_
  refine LP rfl rfl rfl (xpk0 rfl rfl) ?_
  refine LP rfl rfl rfl (xmv rfl) ?_
  refine LN rfl rfl rfl ?_
  refine LNo rfl rfl rfl trivial ?_
  refine LN rfl rfl rfl ?_
  refine LP rfl rfl rfl (xpk0 rfl rfl) ?_
  refine LP rfl rfl rfl (xmv rfl) ?_
  refine LN rfl rfl rfl ?_
  refine LNo rfl rfl rfl trivial ?_
  refine LN rfl rfl rfl ?_
  refine LP rfl rfl rfl (xpk0 rfl rfl) ?_
  refine LP rfl rfl rfl (xmv rfl) ?_
  refine LN rfl rfl rfl ?_
  refine LNo rfl rfl rfl trivial ?_
  refine LN rfl rfl rfl ?_
  refine LN rfl rfl rfl ?_
  refine LN rfl rfl rfl ?_
  refine LNo rfl rfl rfl trivial ?_
  refine LN rfl rfl rfl ?_
  refine LN rfl rfl rfl ?_
  refine LN rfl rfl rfl ?_
  refine LN rfl rfl rfl ?_
  refine LNo rfl rfl rfl trivial ?_
  refine LN rfl rfl rfl ?_
  refine LN rfl rfl rfl ?_
  refine LN rfl rfl rfl ?_
  refine LN rfl rfl rfl ?_
  refine LNo rfl rfl rfl trivial ?_
  refine LN rfl rfl rfl ?_
  refine LN rfl rfl rfl ?_
  refine LP rfl rfl rfl (xpk0 rfl rfl) ?_
  refine LP rfl rfl rfl (xas rfl) ?_
  refine LZ ?_
  refine F_seq ?_
  refine W_ret ?_
  exact F_end1 rfl rfl ⟨_, rfl, by first | (simp [badX, *]; done) | grind [badX], hl1⟩
theorem r_index {x : Instr} {w : World} :
    Fn Try.prog 127 #[(.agg (InstrE.f x).toArray)] w fun v w' => v = .int .i64 (if badR x then 132 else 0) ∧ Le w w' := by
 refine Fn.enter 49 [(0, _)] Try.func127 rfl rfl rfl rfl ?_
 refine W_seq ?_
 refine W_reg (.one 0 (.pure 1 .nil)) rfl ?_
 refine LT rfl rfl rfl (xbox rfl) ?_
 rintro _ w1 ⟨b1, rfl, hl1, hb1, hb1z⟩
 refine ⟨trivial, ?_⟩
 refine LP rfl rfl rfl (xas rfl) ?_
 refine LZ ?_
 refine F_seq ?_
 refine W_seq ?_
 refine W_seq ?_
 refine W_reg (.pure 0 (.one 1 (.one 2 (.pure 3 (.pure 4 (.one 5 (.pure 6 (.pure 7 (.pure 8 (.one 9 (.pure 10 (.pure 11 (.pure 12 (.pure 13 (.pure 14 (.one 15 (.one 16 (.pure 17 (.pure 18 (.one 19 (.pure 20 (.pure 21 (.pure 22 (.one 23 (.pure 24 (.pure 25 (.pure 26 (.pure 27 .nil)))))))))))))))))))))))))))) rfl ?_
 refine LP rfl rfl rfl (xfa fa145_1 rfl) ?_
 refine LX rfl rfl rfl (xld sc3 rfl (cl_bk hb1 rfl)) trivial ?_
 refine LF rfl rfl rfl has124 rfl (r_first) ?_
 rintro _ w2 ⟨rfl, hl2⟩
 refine ⟨trivial, ?_⟩
 refine LP rfl rfl rfl (xmv rfl) ?_
 refine L_split (t := 6) rfl (fun c1 => ?_) (fun c1 => ?_)
 · -- c1 yes
  refine LP rfl rfl rfl (xfa fa145_2 rfl) ?_
  refine LX rfl rfl rfl (xld sc3 rfl (cl_bk (Le.bk hl2 hb1) rfl)) trivial ?_
  refine LP rfl rfl rfl (xlss rfl rfl) ?_
  refine LP rfl rfl rfl (xmv rfl) ?_
  refine L_split (t := 10) rfl (fun c2 => ?_) (fun c2 => ?_)
  · -- c2 yes
   replace c2 := of_decide_eq_true c2
   refine LN rfl rfl rfl ?_
   refine LNo rfl rfl rfl trivial ?_
   refine LN rfl rfl rfl ?_
   refine LP rfl rfl rfl (xpk1 rfl rfl) ?_
   refine LP rfl rfl rfl (xpk1 rfl rfl) ?_
   refine LP rfl rfl rfl (xmv rfl) ?_
   refine LN rfl rfl rfl ?_
   refine LNo rfl rfl rfl trivial ?_
   refine LNo rfl rfl rfl trivial ?_
   refine LN rfl rfl rfl ?_
   refine LN rfl rfl rfl ?_
   refine LNo rfl rfl rfl trivial ?_
   refine LN rfl rfl rfl ?_
   refine LN rfl rfl rfl ?_
   refine LN rfl rfl rfl ?_
   refine LNo rfl rfl rfl trivial ?_
   refine LN rfl rfl rfl ?_
   refine LN rfl rfl rfl ?_
   refine LN rfl rfl rfl ?_
   refine LP rfl rfl rfl (xpk1 rfl rfl) ?_
   refine LZ ?_
   refine F_seq ?_
   refine W_if rfl ?_
   refine W_seq ?_
   refine W_reg (.pure 0 .nil) rfl ?_
   refine LP rfl rfl rfl (xas rfl) ?_
   refine LZ ?_
   refine F_seq ?_
   refine W_ret ?_
   refine F_ret_then ?_
   exact F_end1 rfl rfl ⟨_, rfl, by first | (simp [badR, *]; done) | grind [badR], (hl1.trans hl2)⟩
  · -- c2 no
   replace c2 := of_decide_eq_false c2
   refine LP rfl rfl rfl (xfa fa145_2 rfl) ?_
   refine LX rfl rfl rfl (xld sc3 rfl (cl_bk (Le.bk hl2 hb1) rfl)) trivial ?_
   refine LP rfl rfl rfl (xgeq rfl rfl) ?_
   refine LP rfl rfl rfl (xpk0 rfl rfl) ?_
   refine LP rfl rfl rfl (xpk1 rfl rfl) ?_
   refine LP rfl rfl rfl (xmv rfl) ?_
   refine L_split (t := 16) rfl (fun c4 => ?_) (fun c4 => ?_)
   · -- c4 yes
    replace c4 := of_decide_eq_true c4
    refine LN rfl rfl rfl ?_
    refine LNo rfl rfl rfl trivial ?_
    refine LNo rfl rfl rfl trivial ?_
    refine LN rfl rfl rfl ?_
    refine LN rfl rfl rfl ?_
    refine LNo rfl rfl rfl trivial ?_
    refine LN rfl rfl rfl ?_
    refine LN rfl rfl rfl ?_
    refine LN rfl rfl rfl ?_
    refine LNo rfl rfl rfl trivial ?_
    refine LN rfl rfl rfl ?_
    refine LN rfl rfl rfl ?_
    refine LN rfl rfl rfl ?_
    refine LP rfl rfl rfl (xpk1 rfl rfl) ?_
    refine LZ ?_
    refine F_seq ?_
    refine W_if rfl ?_
    refine W_seq ?_
    refine W_reg (.pure 0 .nil) rfl ?_
    refine LP rfl rfl rfl (xas rfl) ?_
    refine LZ ?_
    refine F_seq ?_
    refine W_ret ?_
    refine F_ret_then ?_
    exact F_end1 rfl rfl ⟨_, rfl, by first | (simp [badR, *]; done) | grind [badR], (hl1.trans hl2)⟩
   · -- c4 no
    replace c4 := of_decide_eq_false c4
    refine LP rfl rfl rfl (xfa fa145_1 rfl) ?_
    refine LX rfl rfl rfl (xld sc3 rfl (cl_bk (Le.bk hl2 hb1) rfl)) trivial ?_
    refine LF rfl rfl rfl has125 rfl (r_two) ?_
    rintro _ w3 ⟨rfl, hl3⟩
    refine ⟨trivial, ?_⟩
    refine LP rfl rfl rfl (xmv rfl) ?_
    refine L_split (t := 20) rfl (fun c6 => ?_) (fun c6 => ?_)
    · -- c6 yes
     refine LP rfl rfl rfl (xfa fa145_3 rfl) ?_
     refine LX rfl rfl rfl (xld sc3 rfl (cl_bk (Le.bk (hl2.trans hl3) hb1) rfl)) trivial ?_
     refine LP rfl rfl rfl (xlss rfl rfl) ?_
     refine LP rfl rfl rfl (xmv rfl) ?_
     refine L_split (t := 24) rfl (fun c7 => ?_) (fun c7 => ?_)
     · -- c7 yes
      replace c7 := of_decide_eq_true c7
      refine LN rfl rfl rfl ?_
      refine LNo rfl rfl rfl trivial ?_
      refine LN rfl rfl rfl ?_
      refine LP rfl rfl rfl (xpk1 rfl rfl) ?_
      refine LP rfl rfl rfl (xpk1 rfl rfl) ?_
      refine LP rfl rfl rfl (xpk0 rfl rfl) ?_
      refine LZ ?_
      refine F_seq ?_
      refine W_if rfl ?_
      refine W_seq ?_
      refine W_reg (.pure 0 .nil) rfl ?_
      refine LP rfl rfl rfl (xas rfl) ?_
      refine LZ ?_
      refine F_seq ?_
      refine W_ret ?_
      refine F_ret_then ?_
      exact F_end1 rfl rfl ⟨_, rfl, by first | (simp [badR, *]; done) | grind [badR], (hl1.trans (hl2.trans hl3))⟩
     · -- c7 no
      replace c7 := of_decide_eq_false c7
      refine LP rfl rfl rfl (xfa fa145_3 rfl) ?_
      refine LX rfl rfl rfl (xld sc3 rfl (cl_bk (Le.bk (hl2.trans hl3) hb1) rfl)) trivial ?_
      refine LP rfl rfl rfl (xgeq rfl rfl) ?_
      refine LP rfl rfl rfl (xpk0 rfl rfl) ?_
      refine LP rfl rfl rfl (xpk1 rfl rfl) ?_
      refine LP rfl rfl rfl (xpk0 rfl rfl) ?_
      refine LZ ?_
      refine F_seq ?_
      refine W_cond rfl (fun c9 => ?_) (fun c9 => ?_)
      · -- c9 yes
       replace c9 := of_decide_eq_true c9
       refine W_seq ?_
       refine W_reg (.pure 0 .nil) rfl ?_
       refine LP rfl rfl rfl (xas rfl) ?_
       refine LZ ?_
       refine F_seq ?_
       refine W_ret ?_
       refine F_ret_then ?_
       exact F_end1 rfl rfl ⟨_, rfl, by first | (simp [badR, *]; done) | grind [badR], (hl1.trans (hl2.trans hl3))⟩
      · -- c9 no
       replace c9 := of_decide_eq_false c9
       refine W_skip ?_
       refine F_seq ?_
       refine W_seq ?_
       refine W_seq ?_
       refine W_reg (.pure 0 (.one 1 (.pure 2 (.pure 3 (.pure 4 (.one 5 (.pure 6 (.pure 7 (.pure 8 (.pure 9 (.one 10 (.pure 11 (.pure 12 (.pure 13 (.pure 14 (.one 15 (.pure 16 (.pure 17 .nil)))))))))))))))))) rfl ?_
       refine LP rfl rfl rfl (xfa fa145_1 rfl) ?_
       refine LX rfl rfl rfl (xld sc3 rfl (cl_bk (Le.bk (hl2.trans hl3) hb1) rfl)) trivial ?_
       refine LP rfl rfl rfl (xeql rfl rfl) ?_
       refine LP rfl rfl rfl (xmv rfl) ?_
       refine L_split (t := 34) rfl (fun c10 => ?_) (fun c10 => ?_)
       · -- c10 yes
        replace c10 := of_decide_eq_true c10
        refine LP rfl rfl rfl (xfa fa145_4 rfl) ?_
        refine LX rfl rfl rfl (xld sc2 rfl (cl_bk (Le.bk (hl2.trans hl3) hb1) rfl)) trivial ?_
        refine LP rfl rfl rfl (xneq rfl rfl) ?_
        refine LP rfl rfl rfl (xpk1 rfl rfl) ?_
        refine LP rfl rfl rfl (xmv rfl) ?_
        refine L_split (t := 39) rfl (fun c11 => ?_) (fun c11 => ?_)
        · -- c11 yes
         try simp only [Bool.not_eq_true', Bool.not_eq_false', decide_eq_true_eq, decide_eq_false_iff_not] at c11
         refine LP rfl rfl rfl (xfa fa145_4 rfl) ?_
         refine LX rfl rfl rfl (xld sc2 rfl (cl_bk (Le.bk (hl2.trans hl3) hb1) rfl)) trivial ?_
         refine LP rfl rfl rfl (xneq rfl rfl) ?_
         refine LP rfl rfl rfl (xpk1 rfl rfl) ?_
         refine LP rfl rfl rfl (xmv rfl) ?_
         refine L_split (t := 44) rfl (fun c12 => ?_) (fun c12 => ?_)
         · -- c12 yes
          try simp only [Bool.not_eq_true', Bool.not_eq_false', decide_eq_true_eq, decide_eq_false_iff_not] at c12
          refine LP rfl rfl rfl (xfa fa145_4 rfl) ?_
          refine LX rfl rfl rfl (xld sc2 rfl (cl_bk (Le.bk (hl2.trans hl3) hb1) rfl)) trivial ?_
          refine LP rfl rfl rfl (xneq rfl rfl) ?_
          refine LP rfl rfl rfl (xpk1 rfl rfl) ?_
          refine LZ ?_
          refine F_seq ?_
          refine W_cond rfl (fun c13 => ?_) (fun c13 => ?_)
          · -- c13 yes
           try simp only [Bool.not_eq_true', Bool.not_eq_false', decide_eq_true_eq, decide_eq_false_iff_not] at c13
           refine W_seq ?_
           refine W_reg (.pure 0 .nil) rfl ?_
           refine LP rfl rfl rfl (xas rfl) ?_
           refine LZ ?_
           refine F_seq ?_
           refine W_ret ?_
           refine F_ret_then ?_
           exact F_end1 rfl rfl ⟨_, rfl, by first | (simp [badR, *]; done) | grind [badR], (hl1.trans (hl2.trans hl3))⟩
          · -- c13 no
           try simp only [Bool.not_eq_true', Bool.not_eq_false', decide_eq_true_eq, decide_eq_false_iff_not] at c13
           refine W_skip ?_
           refine F_seq ?_
           refine W_seq ?_
           refine W_reg (.pure 0 .nil) rfl ?_
           refine LP rfl rfl rfl (xas rfl) ?_
           refine LZ ?_
           refine F_seq ?_
           refine W_ret ?_
           exact F_end1 rfl rfl ⟨_, rfl, by first | (simp [badR, *]; done) | grind [badR], (hl1.trans (hl2.trans hl3))⟩
         · -- c12 no
          try simp only [Bool.not_eq_true', Bool.not_eq_false', decide_eq_true_eq, decide_eq_false_iff_not] at c12
          refine LN rfl rfl rfl ?_
          refine LNo rfl rfl rfl trivial ?_
          refine LN rfl rfl rfl ?_
          refine LP rfl rfl rfl (xpk0 rfl rfl) ?_
          refine LZ ?_
          refine F_seq ?_
          refine W_else rfl ?_
          refine W_skip ?_
          refine F_seq ?_
          refine W_seq ?_
          refine W_reg (.pure 0 .nil) rfl ?_
          refine LP rfl rfl rfl (xas rfl) ?_
          refine LZ ?_
          refine F_seq ?_
          refine W_ret ?_
          exact F_end1 rfl rfl ⟨_, rfl, by first | (simp [badR, *]; done) | grind [badR], (hl1.trans (hl2.trans hl3))⟩
        · -- c11 no
         try simp only [Bool.not_eq_true', Bool.not_eq_false', decide_eq_true_eq, decide_eq_false_iff_not] at c11
         refine LN rfl rfl rfl ?_
         refine LNo rfl rfl rfl trivial ?_
         refine LN rfl rfl rfl ?_
         refine LP rfl rfl rfl (xpk0 rfl rfl) ?_
         refine LP rfl rfl rfl (xmv rfl) ?_
         refine LN rfl rfl rfl ?_
         refine LNo rfl rfl rfl trivial ?_
         refine LN rfl rfl rfl ?_
         refine LP rfl rfl rfl (xpk0 rfl rfl) ?_
         refine LZ ?_
         refine F_seq ?_
         refine W_else rfl ?_
         refine W_skip ?_
         refine F_seq ?_
         refine W_seq ?_
         refine W_reg (.pure 0 .nil) rfl ?_
         refine LP rfl rfl rfl (xas rfl) ?_
         refine LZ ?_
         refine F_seq ?_
         refine W_ret ?_
         exact F_end1 rfl rfl ⟨_, rfl, by first | (simp [badR, *]; done) | grind [badR], (hl1.trans (hl2.trans hl3))⟩
       · -- c10 no
        replace c10 := of_decide_eq_false c10
        refine LN rfl rfl rfl ?_
        refine LNo rfl rfl rfl trivial ?_
        refine LN rfl rfl rfl ?_
        refine LP rfl rfl rfl (xpk0 rfl rfl) ?_
        refine LP rfl rfl rfl (xmv rfl) ?_
        refine LN rfl rfl rfl ?_
        refine LNo rfl rfl rfl trivial ?_
        refine LN rfl rfl rfl ?_
        refine LP rfl rfl rfl (xpk0 rfl rfl) ?_
        refine LP rfl rfl rfl (xmv rfl) ?_
        refine LN rfl rfl rfl ?_
        refine LNo rfl rfl rfl trivial ?_
        refine LN rfl rfl rfl ?_
        refine LP rfl rfl rfl (xpk0 rfl rfl) ?_
        refine LZ ?_
        refine F_seq ?_
        refine W_else rfl ?_
        refine W_skip ?_
        refine F_seq ?_
        refine W_seq ?_
        refine W_reg (.pure 0 .nil) rfl ?_
        refine LP rfl rfl rfl (xas rfl) ?_
        refine LZ ?_
        refine F_seq ?_
        refine W_ret ?_
        exact F_end1 rfl rfl ⟨_, rfl, by first | (simp [badR, *]; done) | grind [badR], (hl1.trans (hl2.trans hl3))⟩
    · -- c6 no
     refine LN rfl rfl rfl ?_
     refine LNo rfl rfl rfl trivial ?_
     refine LN rfl rfl rfl ?_
     refine LN rfl rfl rfl ?_
     refine LN rfl rfl rfl ?_
     refine LNo rfl rfl rfl trivial ?_
     refine LN rfl rfl rfl ?_
     refine LN rfl rfl rfl ?_
     refine LP rfl rfl rfl (xpk0 rfl rfl) ?_
     refine LP rfl rfl rfl (xpk0 rfl rfl) ?_
     refine LZ ?_
     refine F_seq ?_
     refine W_else rfl ?_
     refine W_skip ?_
     refine F_seq ?_
     refine W_seq ?_
     refine W_seq ?_
     refine W_reg (.pure 0 (.one 1 (.pure 2 (.pure 3 (.pure 4 (.one 5 (.pure 6 (.pure 7 (.pure 8 (.pure 9 (.one 10 (.pure 11 (.pure 12 (.pure 13 (.pure 14 (.one 15 (.pure 16 (.pure 17 .nil)))))))))))))))))) rfl ?_
     refine LP rfl rfl rfl (xfa fa145_1 rfl) ?_
     refine LX rfl rfl rfl (xld sc3 rfl (cl_bk (Le.bk (hl2.trans hl3) hb1) rfl)) trivial ?_
     refine LP rfl rfl rfl (xeql rfl rfl) ?_
     refine LP rfl rfl rfl (xmv rfl) ?_
     refine L_split (t := 34) rfl (fun c18 => ?_) (fun c18 => ?_)
     · -- c18 yes
      replace c18 := of_decide_eq_true c18
      refine LP rfl rfl rfl (xfa fa145_4 rfl) ?_
      refine LX rfl rfl rfl (xld sc2 rfl (cl_bk (Le.bk (hl2.trans hl3) hb1) rfl)) trivial ?_
      refine LP rfl rfl rfl (xneq rfl rfl) ?_
      refine LP rfl rfl rfl (xpk1 rfl rfl) ?_
      refine LP rfl rfl rfl (xmv rfl) ?_
      refine L_split (t := 39) rfl (fun c19 => ?_) (fun c19 => ?_)
      · -- c19 yes
       try simp only [Bool.not_eq_true', Bool.not_eq_false', decide_eq_true_eq, decide_eq_false_iff_not] at c19
       refine LP rfl rfl rfl (xfa fa145_4 rfl) ?_
       refine LX rfl rfl rfl (xld sc2 rfl (cl_bk (Le.bk (hl2.trans hl3) hb1) rfl)) trivial ?_
       refine LP rfl rfl rfl (xneq rfl rfl) ?_
       refine LP rfl rfl rfl (xpk1 rfl rfl) ?_
       refine LP rfl rfl rfl (xmv rfl) ?_
       refine L_split (t := 44) rfl (fun c20 => ?_) (fun c20 => ?_)
       · -- c20 yes
        try simp only [Bool.not_eq_true', Bool.not_eq_false', decide_eq_true_eq, decide_eq_false_iff_not] at c20
        refine LP rfl rfl rfl (xfa fa145_4 rfl) ?_
        refine LX rfl rfl rfl (xld sc2 rfl (cl_bk (Le.bk (hl2.trans hl3) hb1) rfl)) trivial ?_
        refine LP rfl rfl rfl (xneq rfl rfl) ?_
        refine LP rfl rfl rfl (xpk1 rfl rfl) ?_
        refine LZ ?_
        refine F_seq ?_
        refine W_cond rfl (fun c21 => ?_) (fun c21 => ?_)
        · -- c21 yes
         try simp only [Bool.not_eq_true', Bool.not_eq_false', decide_eq_true_eq, decide_eq_false_iff_not] at c21
         refine W_seq ?_
         refine W_reg (.pure 0 .nil) rfl ?_
         refine LP rfl rfl rfl (xas rfl) ?_
         refine LZ ?_
         refine F_seq ?_
         refine W_ret ?_
         refine F_ret_then ?_
         exact F_end1 rfl rfl ⟨_, rfl, by first | (simp [badR, *]; done) | grind [badR], (hl1.trans (hl2.trans hl3))⟩
        · -- c21 no
         try simp only [Bool.not_eq_true', Bool.not_eq_false', decide_eq_true_eq, decide_eq_false_iff_not] at c21
         refine W_skip ?_
         refine F_seq ?_
         refine W_seq ?_
         refine W_reg (.pure 0 .nil) rfl ?_
         refine LP rfl rfl rfl (xas rfl) ?_
         refine LZ ?_
         refine F_seq ?_
         refine W_ret ?_
         exact F_end1 rfl rfl ⟨_, rfl, by first | (simp [badR, *]; done) | grind [badR], (hl1.trans (hl2.trans hl3))⟩
       · -- c20 no
        try simp only [Bool.not_eq_true', Bool.not_eq_false', decide_eq_true_eq, decide_eq_false_iff_not] at c20
        refine LN rfl rfl rfl ?_
        refine LNo rfl rfl rfl trivial ?_
        refine LN rfl rfl rfl ?_
        refine LP rfl rfl rfl (xpk0 rfl rfl) ?_
        refine LZ ?_
        refine F_seq ?_
        refine W_else rfl ?_
        refine W_skip ?_
        refine F_seq ?_
        refine W_seq ?_
        refine W_reg (.pure 0 .nil) rfl ?_
        refine LP rfl rfl rfl (xas rfl) ?_
        refine LZ ?_
        refine F_seq ?_
        refine W_ret ?_
        exact F_end1 rfl rfl ⟨_, rfl, by first | (simp [badR, *]; done) | grind [badR], (hl1.trans (hl2.trans hl3))⟩
      · -- c19 no
       try simp only [Bool.not_eq_true', Bool.not_eq_false', decide_eq_true_eq, decide_eq_false_iff_not] at c19
       refine LN rfl rfl rfl ?_
       refine LNo rfl rfl rfl trivial ?_
       refine LN rfl rfl rfl ?_
       refine LP rfl rfl rfl (xpk0 rfl rfl) ?_
       refine LP rfl rfl rfl (xmv rfl) ?_
       refine LN rfl rfl rfl ?_
       refine LNo rfl rfl rfl trivial ?_
       refine LN rfl rfl rfl ?_
       refine LP rfl rfl rfl (xpk0 rfl rfl) ?_
       refine LZ ?_
       refine F_seq ?_
       refine W_else rfl ?_
       refine W_skip ?_
       refine F_seq ?_
       refine W_seq ?_
       refine W_reg (.pure 0 .nil) rfl ?_
       refine LP rfl rfl rfl (xas rfl) ?_
       refine LZ ?_
       refine F_seq ?_
       refine W_ret ?_
       exact F_end1 rfl rfl ⟨_, rfl, by first | (simp [badR, *]; done) | grind [badR], (hl1.trans (hl2.trans hl3))⟩
     · -- c18 no
      replace c18 := of_decide_eq_false c18
      refine LN rfl rfl rfl ?_
      refine LNo rfl rfl rfl trivial ?_
      refine LN rfl rfl rfl ?_
      refine LP rfl rfl rfl (xpk0 rfl rfl) ?_
      refine LP rfl rfl rfl (xmv rfl) ?_
      refine LN rfl rfl rfl ?_
      refine LNo rfl rfl rfl trivial ?_
      refine LN rfl rfl rfl ?_
      refine LP rfl rfl rfl (xpk0 rfl rfl) ?_
      refine LP rfl rfl rfl (xmv rfl) ?_
      refine LN rfl rfl rfl ?_
      refine LNo rfl rfl rfl trivial ?_
      refine LN rfl rfl rfl ?_
      refine LP rfl rfl rfl (xpk0 rfl rfl) ?_
      refine LZ ?_
      refine F_seq ?_
      refine W_else rfl ?_
      refine W_skip ?_
      refine F_seq ?_
      refine W_seq ?_
      refine W_reg (.pure 0 .nil) rfl ?_
      refine LP rfl rfl rfl (xas rfl) ?_
      refine LZ ?_
      refine F_seq ?_
      refine W_ret ?_
      exact F_end1 rfl rfl ⟨_, rfl, by first | (simp [badR, *]; done) | grind [badR], (hl1.trans (hl2.trans hl3))⟩
 · -- c1 no
  refine LN rfl rfl rfl ?_
  refine LNo rfl rfl rfl trivial ?_
  refine LN rfl rfl rfl ?_
  refine LN rfl rfl rfl ?_
  refine LN rfl rfl rfl ?_
  refine LNo rfl rfl rfl trivial ?_
  refine LN rfl rfl rfl ?_
  refine LN rfl rfl rfl ?_
  refine LP rfl rfl rfl (xpk0 rfl rfl) ?_
  refine LP rfl rfl rfl (xmv rfl) ?_
  refine LP rfl rfl rfl (xfa fa145_1 rfl) ?_
  refine LX rfl rfl rfl (xld sc3 rfl (cl_bk (Le.bk hl2 hb1) rfl)) trivial ?_
  refine LF rfl rfl rfl has125 rfl (r_two) ?_
  rintro _ w4 ⟨rfl, hl4⟩
  refine ⟨trivial, ?_⟩
  refine LP rfl rfl rfl (xmv rfl) ?_
  refine L_split (t := 20) rfl (fun c25 => ?_) (fun c25 => ?_)
  · -- c25 yes
   refine LP rfl rfl rfl (xfa fa145_3 rfl) ?_
   refine LX rfl rfl rfl (xld sc3 rfl (cl_bk (Le.bk (hl2.trans hl4) hb1) rfl)) trivial ?_
   refine LP rfl rfl rfl (xlss rfl rfl) ?_
   refine LP rfl rfl rfl (xmv rfl) ?_
   refine L_split (t := 24) rfl (fun c26 => ?_) (fun c26 => ?_)
   · -- c26 yes
    replace c26 := of_decide_eq_true c26
    refine LN rfl rfl rfl ?_
    refine LNo rfl rfl rfl trivial ?_
    refine LN rfl rfl rfl ?_
    refine LP rfl rfl rfl (xpk1 rfl rfl) ?_
    refine LP rfl rfl rfl (xpk1 rfl rfl) ?_
    refine LP rfl rfl rfl (xpk0 rfl rfl) ?_
    refine LZ ?_
    refine F_seq ?_
    refine W_if rfl ?_
    refine W_seq ?_
    refine W_reg (.pure 0 .nil) rfl ?_
    refine LP rfl rfl rfl (xas rfl) ?_
    refine LZ ?_
    refine F_seq ?_
    refine W_ret ?_
    refine F_ret_then ?_
    exact F_end1 rfl rfl ⟨_, rfl, by first | (simp [badR, *]; done) | grind [badR], (hl1.trans (hl2.trans hl4))⟩
   · -- c26 no
    replace c26 := of_decide_eq_false c26
    refine LP rfl rfl rfl (xfa fa145_3 rfl) ?_
    refine LX rfl rfl rfl (xld sc3 rfl (cl_bk (Le.bk (hl2.trans hl4) hb1) rfl)) trivial ?_
    refine LP rfl rfl rfl (xgeq rfl rfl) ?_
    refine LP rfl rfl rfl (xpk0 rfl rfl) ?_
    refine LP rfl rfl rfl (xpk1 rfl rfl) ?_
    refine LP rfl rfl rfl (xpk0 rfl rfl) ?_
    refine LZ ?_
    refine F_seq ?_
    refine W_cond rfl (fun c28 => ?_) (fun c28 => ?_)
    · -- c28 yes
     replace c28 := of_decide_eq_true c28
     refine W_seq ?_
     refine W_reg (.pure 0 .nil) rfl ?_
     refine LP rfl rfl rfl (xas rfl) ?_
     refine LZ ?_
     refine F_seq ?_
     refine W_ret ?_
     refine F_ret_then ?_
     exact F_end1 rfl rfl ⟨_, rfl, by first | (simp [badR, *]; done) | grind [badR], (hl1.trans (hl2.trans hl4))⟩
    · -- c28 no
     replace c28 := of_decide_eq_false c28
     refine W_skip ?_
     refine F_seq ?_
     refine W_seq ?_
     refine W_seq ?_
     refine W_reg (.pure 0 (.one 1 (.pure 2 (.pure 3 (.pure 4 (.one 5 (.pure 6 (.pure 7 (.pure 8 (.pure 9 (.one 10 (.pure 11 (.pure 12 (.pure 13 (.pure 14 (.one 15 (.pure 16 (.pure 17 .nil)))))))))))))))))) rfl ?_
     refine LP rfl rfl rfl (xfa fa145_1 rfl) ?_
     refine LX rfl rfl rfl (xld sc3 rfl (cl_bk (Le.bk (hl2.trans hl4) hb1) rfl)) trivial ?_
     refine LP rfl rfl rfl (xeql rfl rfl) ?_
     refine LP rfl rfl rfl (xmv rfl) ?_
     refine L_split (t := 34) rfl (fun c29 => ?_) (fun c29 => ?_)
     · -- c29 yes
      replace c29 := of_decide_eq_true c29
      refine LP rfl rfl rfl (xfa fa145_4 rfl) ?_
      refine LX rfl rfl rfl (xld sc2 rfl (cl_bk (Le.bk (hl2.trans hl4) hb1) rfl)) trivial ?_
      refine LP rfl rfl rfl (xneq rfl rfl) ?_
      refine LP rfl rfl rfl (xpk1 rfl rfl) ?_
      refine LP rfl rfl rfl (xmv rfl) ?_
      refine L_split (t := 39) rfl (fun c30 => ?_) (fun c30 => ?_)
      · -- c30 yes
       try simp only [Bool.not_eq_true', Bool.not_eq_false', decide_eq_true_eq, decide_eq_false_iff_not] at c30
       refine LP rfl rfl rfl (xfa fa145_4 rfl) ?_
       refine LX rfl rfl rfl (xld sc2 rfl (cl_bk (Le.bk (hl2.trans hl4) hb1) rfl)) trivial ?_
       refine LP rfl rfl rfl (xneq rfl rfl) ?_
       refine LP rfl rfl rfl (xpk1 rfl rfl) ?_
       refine LP rfl rfl rfl (xmv rfl) ?_
       refine L_split (t := 44) rfl (fun c31 => ?_) (fun c31 => ?_)
       · -- c31 yes
        try simp only [Bool.not_eq_true', Bool.not_eq_false', decide_eq_true_eq, decide_eq_false_iff_not] at c31
        refine LP rfl rfl rfl (xfa fa145_4 rfl) ?_
        refine LX rfl rfl rfl (xld sc2 rfl (cl_bk (Le.bk (hl2.trans hl4) hb1) rfl)) trivial ?_
        refine LP rfl rfl rfl (xneq rfl rfl) ?_
        refine LP rfl rfl rfl (xpk1 rfl rfl) ?_
        refine LZ ?_
        refine F_seq ?_
        refine W_cond rfl (fun c32 => ?_) (fun c32 => ?_)
        · -- c32 yes
         try simp only [Bool.not_eq_true', Bool.not_eq_false', decide_eq_true_eq, decide_eq_false_iff_not] at c32
         refine W_seq ?_
         refine W_reg (.pure 0 .nil) rfl ?_
         refine LP rfl rfl rfl (xas rfl) ?_
         refine LZ ?_
         refine F_seq ?_
         refine W_ret ?_
         refine F_ret_then ?_
         exact F_end1 rfl rfl ⟨_, rfl, by first | (simp [badR, *]; done) | grind [badR], (hl1.trans (hl2.trans hl4))⟩
        · -- c32 no
         try simp only [Bool.not_eq_true', Bool.not_eq_false', decide_eq_true_eq, decide_eq_false_iff_not] at c32
         refine W_skip ?_
         refine F_seq ?_
         refine W_seq ?_
         refine W_reg (.pure 0 .nil) rfl ?_
         refine LP rfl rfl rfl (xas rfl) ?_
         refine LZ ?_
         refine F_seq ?_
         refine W_ret ?_
         exact F_end1 rfl rfl ⟨_, rfl, by first | (simp [badR, *]; done) | grind [badR], (hl1.trans (hl2.trans hl4))⟩
       · -- c31 no
        try simp only [Bool.not_eq_true', Bool.not_eq_false', decide_eq_true_eq, decide_eq_false_iff_not] at c31
        refine LN rfl rfl rfl ?_
        refine LNo rfl rfl rfl trivial ?_
        refine LN rfl rfl rfl ?_
        refine LP rfl rfl rfl (xpk0 rfl rfl) ?_
        refine LZ ?_
        refine F_seq ?_
        refine W_else rfl ?_
        refine W_skip ?_
        refine F_seq ?_
        refine W_seq ?_
        refine W_reg (.pure 0 .nil) rfl ?_
        refine LP rfl rfl rfl (xas rfl) ?_
        refine LZ ?_
        refine F_seq ?_
        refine W_ret ?_
        exact F_end1 rfl rfl ⟨_, rfl, by first | (simp [badR, *]; done) | grind [badR], (hl1.trans (hl2.trans hl4))⟩
      · -- c30 no
       try simp only [Bool.not_eq_true', Bool.not_eq_false', decide_eq_true_eq, decide_eq_false_iff_not] at c30
       refine LN rfl rfl rfl ?_
       refine LNo rfl rfl rfl trivial ?_
       refine LN rfl rfl rfl ?_
       refine LP rfl rfl rfl (xpk0 rfl rfl) ?_
       refine LP rfl rfl rfl (xmv rfl) ?_
       refine LN rfl rfl rfl ?_
       refine LNo rfl rfl rfl trivial ?_
       refine LN rfl rfl rfl ?_
       refine LP rfl rfl rfl (xpk0 rfl rfl) ?_
       refine LZ ?_
       refine F_seq ?_
       refine W_else rfl ?_
       refine W_skip ?_
       refine F_seq ?_
       refine W_seq ?_
       refine W_reg (.pure 0 .nil) rfl ?_
       refine LP rfl rfl rfl (xas rfl) ?_
       refine LZ ?_
       refine F_seq ?_
       refine W_ret ?_
       exact F_end1 rfl rfl ⟨_, rfl, by first | (simp [badR, *]; done) | grind [badR], (hl1.trans (hl2.trans hl4))⟩
     · -- c29 no
      replace c29 := of_decide_eq_false c29
      refine LN rfl rfl rfl ?_
      refine LNo rfl rfl rfl trivial ?_
      refine LN rfl rfl rfl ?_
      refine LP rfl rfl rfl (xpk0 rfl rfl) ?_
      refine LP rfl rfl rfl (xmv rfl) ?_
      refine LN rfl rfl rfl ?_
      refine LNo rfl rfl rfl trivial ?_
      refine LN rfl rfl rfl ?_
      refine LP rfl rfl rfl (xpk0 rfl rfl) ?_
      refine LP rfl rfl rfl (xmv rfl) ?_
      refine LN rfl rfl rfl ?_
      refine LNo rfl rfl rfl trivial ?_
      refine LN rfl rfl rfl ?_
      refine LP rfl rfl rfl (xpk0 rfl rfl) ?_
      refine LZ ?_
      refine F_seq ?_
      refine W_else rfl ?_
      refine W_skip ?_
      refine F_seq ?_
      refine W_seq ?_
      refine W_reg (.pure 0 .nil) rfl ?_
      refine LP rfl rfl rfl (xas rfl) ?_
      refine LZ ?_
      refine F_seq ?_
      refine W_ret ?_
      exact F_end1 rfl rfl ⟨_, rfl, by first | (simp [badR, *]; done) | grind [badR], (hl1.trans (hl2.trans hl4))⟩
  · -- c25 no
   refine LN rfl rfl rfl ?_
   refine LNo rfl rfl rfl trivial ?_
   refine LN rfl rfl rfl ?_
   refine LN rfl rfl rfl ?_
   refine LN rfl rfl rfl ?_
   refine LNo rfl rfl rfl trivial ?_
   refine LN rfl rfl rfl ?_
   refine LN rfl rfl rfl ?_
   refine LP rfl rfl rfl (xpk0 rfl rfl) ?_
   refine LP rfl rfl rfl (xpk0 rfl rfl) ?_
   refine LZ ?_
   refine F_seq ?_
   refine W_else rfl ?_
   refine W_skip ?_
   refine F_seq ?_
   refine W_seq ?_
   refine W_seq ?_
   refine W_reg (.pure 0 (.one 1 (.pure 2 (.pure 3 (.pure 4 (.one 5 (.pure 6 (.pure 7 (.pure 8 (.pure 9 (.one 10 (.pure 11 (.pure 12 (.pure 13 (.pure 14 (.one 15 (.pure 16 (.pure 17 .nil)))))))))))))))))) rfl ?_
   refine LP rfl rfl rfl (xfa fa145_1 rfl) ?_
   refine LX rfl rfl rfl (xld sc3 rfl (cl_bk (Le.bk (hl2.trans hl4) hb1) rfl)) trivial ?_
   refine LP rfl rfl rfl (xeql rfl rfl) ?_
   refine LP rfl rfl rfl (xmv rfl) ?_
   refine L_split (t := 34) rfl (fun c37 => ?_) (fun c37 => ?_)
   · -- c37 yes
    replace c37 := of_decide_eq_true c37
    refine LP rfl rfl rfl (xfa fa145_4 rfl) ?_
    refine LX rfl rfl rfl (xld sc2 rfl (cl_bk (Le.bk (hl2.trans hl4) hb1) rfl)) trivial ?_
    refine LP rfl rfl rfl (xneq rfl rfl) ?_
    refine LP rfl rfl rfl (xpk1 rfl rfl) ?_
    refine LP rfl rfl rfl (xmv rfl) ?_
    refine L_split (t := 39) rfl (fun c38 => ?_) (fun c38 => ?_)
    · -- c38 yes
     try simp only [Bool.not_eq_true', Bool.not_eq_false', decide_eq_true_eq, decide_eq_false_iff_not] at c38
     refine LP rfl rfl rfl (xfa fa145_4 rfl) ?_
     refine LX rfl rfl rfl (xld sc2 rfl (cl_bk (Le.bk (hl2.trans hl4) hb1) rfl)) trivial ?_
     refine LP rfl rfl rfl (xneq rfl rfl) ?_
     refine LP rfl rfl rfl (xpk1 rfl rfl) ?_
     refine LP rfl rfl rfl (xmv rfl) ?_
     refine L_split (t := 44) rfl (fun c39 => ?_) (fun c39 => ?_)
     · -- c39 yes
      try simp only [Bool.not_eq_true', Bool.not_eq_false', decide_eq_true_eq, decide_eq_false_iff_not] at c39
      refine LP rfl rfl rfl (xfa fa145_4 rfl) ?_
      refine LX rfl rfl rfl (xld sc2 rfl (cl_bk (Le.bk (hl2.trans hl4) hb1) rfl)) trivial ?_
      refine LP rfl rfl rfl (xneq rfl rfl) ?_
      refine LP rfl rfl rfl (xpk1 rfl rfl) ?_
      refine LZ ?_
      refine F_seq ?_
      refine W_cond rfl (fun c40 => ?_) (fun c40 => ?_)
      · -- c40 yes
       try simp only [Bool.not_eq_true', Bool.not_eq_false', decide_eq_true_eq, decide_eq_false_iff_not] at c40
       refine W_seq ?_
       refine W_reg (.pure 0 .nil) rfl ?_
       refine LP rfl rfl rfl (xas rfl) ?_
       refine LZ ?_
       refine F_seq ?_
       refine W_ret ?_
       refine F_ret_then ?_
       exact F_end1 rfl rfl ⟨_, rfl, by first | (simp [badR, *]; done) | grind [badR], (hl1.trans (hl2.trans hl4))⟩
      · -- c40 no
       try simp only [Bool.not_eq_true', Bool.not_eq_false', decide_eq_true_eq, decide_eq_false_iff_not] at c40
       refine W_skip ?_
       refine F_seq ?_
       refine W_seq ?_
       refine W_reg (.pure 0 .nil) rfl ?_
       refine LP rfl rfl rfl (xas rfl) ?_
       refine LZ ?_
       refine F_seq ?_
       refine W_ret ?_
       exact F_end1 rfl rfl ⟨_, rfl, by first | (simp [badR, *]; done) | grind [badR], (hl1.trans (hl2.trans hl4))⟩
     · -- c39 no
      try simp only [Bool.not_eq_true', Bool.not_eq_false', decide_eq_true_eq, decide_eq_false_iff_not] at c39
      refine LN rfl rfl rfl ?_
      refine LNo rfl rfl rfl trivial ?_
      refine LN rfl rfl rfl ?_
      refine LP rfl rfl rfl (xpk0 rfl rfl) ?_
      refine LZ ?_
      refine F_seq ?_
      refine W_else rfl ?_
      refine W_skip ?_
      refine F_seq ?_
      refine W_seq ?_
      refine W_reg (.pure 0 .nil) rfl ?_
      refine LP rfl rfl rfl (xas rfl) ?_
      refine LZ ?_
      refine F_seq ?_
      refine W_ret ?_
      exact F_end1 rfl rfl ⟨_, rfl, by first | (simp [badR, *]; done) | grind [badR], (hl1.trans (hl2.trans hl4))⟩
    · -- c38 no
     try simp only [Bool.not_eq_true', Bool.not_eq_false', decide_eq_true_eq, decide_eq_false_iff_not] at c38
     refine LN rfl rfl rfl ?_
     refine LNo rfl rfl rfl trivial ?_
     refine LN rfl rfl rfl ?_
     refine LP rfl rfl rfl (xpk0 rfl rfl) ?_
     refine LP rfl rfl rfl (xmv rfl) ?_
     refine LN rfl rfl rfl ?_
     refine LNo rfl rfl rfl trivial ?_
     refine LN rfl rfl rfl ?_
     refine LP rfl rfl rfl (xpk0 rfl rfl) ?_
     refine LZ ?_
     refine F_seq ?_
     refine W_else rfl ?_
     refine W_skip ?_
     refine F_seq ?_
     refine W_seq ?_
     refine W_reg (.pure 0 .nil) rfl ?_
     refine LP rfl rfl rfl (xas rfl) ?_
     refine LZ ?_
     refine F_seq ?_
     refine W_ret ?_
     exact F_end1 rfl rfl ⟨_, rfl, by first | (simp [badR, *]; done) | grind [badR], (hl1.trans (hl2.trans hl4))⟩
   · -- c37 no
    replace c37 := of_decide_eq_false c37
    refine LN rfl rfl rfl ?_
    refine LNo rfl rfl rfl trivial ?_
    refine LN rfl rfl rfl ?_
    refine LP rfl rfl rfl (xpk0 rfl rfl) ?_
    refine LP rfl rfl rfl (xmv rfl) ?_
    refine LN rfl rfl rfl ?_
    refine LNo rfl rfl rfl trivial ?_
    refine LN rfl rfl rfl ?_
    refine LP rfl rfl rfl (xpk0 rfl rfl) ?_
    refine LP rfl rfl rfl (xmv rfl) ?_
    refine LN rfl rfl rfl ?_
    refine LNo rfl rfl rfl trivial ?_
    refine LN rfl rfl rfl ?_
    refine LP rfl rfl rfl (xpk0 rfl rfl) ?_
    refine LZ ?_
    refine F_seq ?_
    refine W_else rfl ?_
    refine W_skip ?_
    refine F_seq ?_
    refine W_seq ?_
    refine W_reg (.pure 0 .nil) rfl ?_
    refine LP rfl rfl rfl (xas rfl) ?_
    refine LZ ?_
    refine F_seq ?_
    refine W_ret ?_
    exact F_end1 rfl rfl ⟨_, rfl, by first | (simp [badR, *]; done) | grind [badR], (hl1.trans (hl2.trans hl4))⟩
end Go.Proofs.Ythmhbonhagjnnaa
