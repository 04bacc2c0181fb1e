/- Procedures: tables. -/
import Derived.Test.YthmhbonhagjnnaaProg
import Derived.Test.YthmhbonhagjnnaaA4
import Derived.Test.YthmhbonhagjnnaaCd
import Derived.KernelRfl
namespace Go.Proofs.Ythmhbonhagjnnaa
open Go.RowKit
set_option linter.unusedVariables false
set_option linter.unusedSimpArgs false
theorem bd238_0iiiiiiiiiiiiiiiiiiiiiiiiiiii_1iiiiiiiiiiiiiiiiiiiiiiiiiiii_ : ∀ (x0_0 : Int) (x1_0 : Int) (x2_0 : Int) (x3_0 : Int) (x4_0 : Int) (x5_0 : Int) (x6_0 : Int) (x7_0 : Int) (x8_0 : Int) (x9_0 : Int) (x10_0 : Int) (x11_0 : Int) (x12_0 : Int) (x13_0 : Int) (x14_0 : Int) (x15_0 : Int) (x16_0 : Int) (x17_0 : Int) (x18_0 : Int) (x19_0 : Int) (x20_0 : Int) (x21_0 : Int) (x22_0 : Int) (x23_0 : Int) (x24_0 : Int) (x25_0 : Int) (x26_0 : Int) (x27_0 : Int), BD Try.prog 238 [(0, .int .i64 x0_0), (1, .int .i64 x1_0), (2, .int .i64 x2_0), (3, .int .i64 x3_0), (4, .int .i64 x4_0), (5, .int .i64 x5_0), (6, .int .i64 x6_0), (7, .int .i64 x7_0), (8, .int .i64 x8_0), (9, .int .i64 x9_0), (10, .int .i64 x10_0), (11, .int .i64 x11_0), (12, .int .i64 x12_0), (13, .int .i64 x13_0), (14, .int .i64 x14_0), (15, .int .i64 x15_0), (16, .int .i64 x16_0), (17, .int .i64 x17_0), (18, .int .i64 x18_0), (19, .int .i64 x19_0), (20, .int .i64 x20_0), (21, .int .i64 x21_0), (22, .int .i64 x22_0), (23, .int .i64 x23_0), (24, .int .i64 x24_0), (25, .int .i64 x25_0), (26, .int .i64 x26_0), (27, .int .i64 x27_0)] #[.int .i64 x0_0, .int .i64 x1_0, .int .i64 x2_0, .int .i64 x3_0, .int .i64 x4_0, .int .i64 x5_0, .int .i64 x6_0, .int .i64 x7_0, .int .i64 x8_0, .int .i64 x9_0, .int .i64 x10_0, .int .i64 x11_0, .int .i64 x12_0, .int .i64 x13_0, .int .i64 x14_0, .int .i64 x15_0, .int .i64 x16_0, .int .i64 x17_0, .int .i64 x18_0, .int .i64 x19_0, .int .i64 x20_0, .int .i64 x21_0, .int .i64 x22_0, .int .i64 x23_0, .int .i64 x24_0, .int .i64 x25_0, .int .i64 x26_0, .int .i64 x27_0] := fun _ _ _ _ _ _ _ _ _ _ _ _ _ _ _ _ _ _ _ _ _ _ _ _ _ _ _ _ => fun _ => by kernel_rfl
theorem zr238 : Zr Try.prog 238 [.int .i64 0, .int .i64 0, .int .i64 0, .int .i64 0, .int .i64 0, .int .i64 0, .int .i64 0, .int .i64 0, .int .i64 0, .int .i64 0, .int .i64 0, .int .i64 0, .int .i64 0, .int .i64 0, .int .i64 0, .int .i64 0, .int .i64 0, .int .i64 0, .int .i64 0, .int .i64 0, .int .i64 0, .int .i64 0, .int .i64 0, .int .i64 0, .int .i64 0, .int .i64 0, .int .i64 0, .int .i64 0] := Zr.of (z := .agg #[.int .i64 0, .int .i64 0, .int .i64 0, .int .i64 0, .int .i64 0, .int .i64 0, .int .i64 0, .int .i64 0, .int .i64 0, .int .i64 0, .int .i64 0, .int .i64 0, .int .i64 0, .int .i64 0, .int .i64 0, .int .i64 0, .int .i64 0, .int .i64 0, .int .i64 0, .int .i64 0, .int .i64 0, .int .i64 0, .int .i64 0, .int .i64 0, .int .i64 0, .int .i64 0, .int .i64 0, .int .i64 0]) (fun _ => by kernel_rfl) rfl
theorem sz238 : ∀ w, (sizeOf 238).run Try.prog w = .ok 28 w := fun _ => by kernel_rfl
theorem ar238 : Try.prog.underlying 238 = some (.array 28 3) := by kernel_rfl
theorem has154 : Has Try.prog 154 Try.f154 := ⟨Try.func154, by kernel_rfl, rfl⟩
theorem bd236_0ii_1ii : ∀ (x0_0 : Int) (x1_0 : Int), BD Try.prog 236 [(0, .int .i64 x0_0), (1, .int .i64 x1_0)] #[.int .i64 x0_0, .int .i64 x1_0] := fun _ _ => fun _ => by kernel_rfl
theorem bd237_0iiiiiiiiii_1iiiiiiiiii_2iiiiiiiiii_3iiiiiiiiii_4iiiiiiiiii : ∀ (x0_0 : Int) (x0_1 : Int) (x1_0 : Int) (x1_1 : Int) (x2_0 : Int) (x2_1 : Int) (x3_0 : Int) (x3_1 : Int) (x4_0 : Int) (x4_1 : Int), BD Try.prog 237 [(0, .agg #[.int .i64 x0_0, .int .i64 x0_1]), (1, .agg #[.int .i64 x1_0, .int .i64 x1_1]), (2, .agg #[.int .i64 x2_0, .int .i64 x2_1]), (3, .agg #[.int .i64 x3_0, .int .i64 x3_1]), (4, .agg #[.int .i64 x4_0, .int .i64 x4_1])] #[.int .i64 x0_0, .int .i64 x0_1, .int .i64 x1_0, .int .i64 x1_1, .int .i64 x2_0, .int .i64 x2_1, .int .i64 x3_0, .int .i64 x3_1, .int .i64 x4_0, .int .i64 x4_1] := fun _ _ _ _ _ _ _ _ _ _ => fun _ => by kernel_rfl
theorem ar237 : Try.prog.underlying 237 = some (.array 5 236) := by kernel_rfl
theorem ag236 : Ag Try.prog 236 2 := ⟨fun _ => by kernel_rfl, fun _ => by kernel_rfl⟩
theorem zr236 : Zr Try.prog 236 [.int .i64 0, .int .i64 0] := Zr.of (z := .agg #[.int .i64 0, .int .i64 0]) (fun _ => by kernel_rfl) rfl
theorem sz236 : ∀ w, (sizeOf 236).run Try.prog w = .ok 2 w := fun _ => by kernel_rfl
theorem ar236 : Try.prog.underlying 236 = some (.array 2 3) := by kernel_rfl
theorem form {op : Int} {w : World} :
    Fn Try.prog 154 #[.int .i64 op] w fun v w' => v = .tuple #[.int .i64 (formS op), .bool (okOp op)] ∧ Le w w' := by
 refine Fn.enter 15 [(0, _)] Try.func154 rfl rfl rfl rfl ?_
 refine W_seq ?_
 refine W_reg (.pure 0 (.pure 1 .nil)) rfl ?_
 refine LP rfl rfl rfl (xas rfl) ?_
 refine LP rfl rfl rfl (xas rfl) ?_
 refine LZ ?_
 refine F_seq ?_
 refine W_seq ?_
 refine W_reg (.pure 0 (.one 1 (.one 2 .nil))) rfl ?_
 refine LP rfl rfl rfl (xbd rfl (bd238_0iiiiiiiiiiiiiiiiiiiiiiiiiiii_1iiiiiiiiiiiiiiiiiiiiiiiiiiii_ (0 : Int) (9 : Int) (5 : Int) (5 : Int) (5 : Int) (5 : Int) (4 : Int) (3 : Int) (3 : Int) (3 : Int) (3 : Int) (3 : Int) (3 : Int) (3 : Int) (3 : Int) (3 : Int) (3 : Int) (3 : Int) (3 : Int) (5 : Int) (3 : Int) (3 : Int) (16 : Int) (17 : Int) (1 : Int) (4 : Int) (7 : Int) (7 : Int))) ?_
 refine LT rfl rfl rfl (xal zr238) ?_
 rintro _ w1 ⟨b1, rfl, hl1, hb1, hb1z⟩
 refine ⟨trivial, ?_⟩
 refine LU rfl rfl (xsb sz238 hb1 rfl rfl (agg_cells _) rfl rfl (al_cons rfl (al_cons rfl (al_cons rfl (al_cons rfl (al_cons rfl (al_cons rfl (al_cons rfl (al_cons rfl (al_cons rfl (al_cons rfl (al_cons rfl (al_cons rfl (al_cons rfl (al_cons rfl (al_cons rfl (al_cons rfl (al_cons rfl (al_cons rfl (al_cons rfl (al_cons rfl (al_cons rfl (al_cons rfl (al_cons rfl (al_cons rfl (al_cons rfl (al_cons rfl (al_cons rfl (al_cons rfl al_nil))))))))))))))))))))))))))))) ?_
 rintro w2 ⟨hq1, hb2⟩
 dsimp only [put] at hb2
 refine ⟨trivial, ?_⟩
 refine LZ ?_
 refine F_seq ?_
 refine W_seq ?_
 refine W_seq ?_
 refine W_reg (.pure 0 (.pure 1 (.pure 2 (.pure 3 (.pure 4 (.pure 5 .nil)))))) rfl ?_
 refine LP rfl rfl rfl (xmv rfl) ?_
 refine LP rfl rfl rfl (xlss rfl rfl) ?_
 refine LP rfl rfl rfl (xmv rfl) ?_
 refine L_split (t := 8) rfl (fun c1 => ?_) (fun c1 => ?_)
 · -- c1 yes
  replace c1 := of_decide_eq_true c1
  refine LN rfl rfl rfl ?_
  refine LN rfl rfl rfl ?_
  refine LP rfl rfl rfl (xpk1 rfl rfl) ?_
  refine LZ ?_
  refine F_seq ?_
  refine W_if rfl ?_
  refine W_seq ?_
  refine W_reg (.pure 0 (.pure 1 .nil)) rfl ?_
  refine LP rfl rfl rfl (xas rfl) ?_
  refine LP rfl rfl rfl (xas rfl) ?_
  refine LZ ?_
  refine F_seq ?_
  refine W_ret ?_
  refine F_ret_then ?_
  have le1 : Le w w2 := (hq1.le hl1 (inc (Nat.le_refl _) hb1z inn))
  have hok : okOp op = false := by simp [okOp]; omega
  exact F_end2 rfl rfl rfl ⟨_, rfl, by simp [formS, hok], le1⟩
 · -- c1 no
  replace c1 := of_decide_eq_false c1
  refine LP rfl rfl rfl (xmv rfl) ?_
  refine LP rfl rfl rfl (xgeq rfl rfl) ?_
  refine LP rfl rfl rfl (xpk0 rfl rfl) ?_
  refine LZ ?_
  refine F_seq ?_
  refine W_cond rfl (fun c3 => ?_) (fun c3 => ?_)
  · -- c3 yes
   replace c3 := of_decide_eq_true c3
   refine W_seq ?_
   refine W_reg (.pure 0 (.pure 1 .nil)) rfl ?_
   refine LP rfl rfl rfl (xas rfl) ?_
   refine LP rfl rfl rfl (xas rfl) ?_
   refine LZ ?_
   refine F_seq ?_
   refine W_ret ?_
   refine F_ret_then ?_
   have le2 : Le w w2 := (hq1.le hl1 (inc (Nat.le_refl _) hb1z inn))
   have hok : okOp op = false := by simp [okOp]; omega
   exact F_end2 rfl rfl rfl ⟨_, rfl, by simp [formS, hok], le2⟩
  · -- c3 no
   replace c3 := of_decide_eq_false c3
   obtain ⟨n, rfl, hn⟩ : ∃ n : Nat, op = n ∧ n < 28 := ⟨op.toNat, by omega, by omega⟩
   have hok : okOp n = true := by simp [okOp]; omega
   refine W_skip ?_
   refine F_seq ?_
   refine W_seq ?_
   refine W_reg (.pure 0 (.pure 1 (.one 2 (.pure 3 (.pure 4 .nil))))) rfl ?_
   refine LP rfl rfl rfl (xmv rfl) ?_
   refine LP rfl rfl rfl (xia n ar238 sz3 rfl rfl (by omega) (by omega)) ?_
   refine LX rfl rfl rfl (xld sc3 rfl (cl_bk hb2 (form_cell (by omega)))) trivial ?_
   refine LP rfl rfl rfl (xas rfl) ?_
   refine LP rfl rfl rfl (xas rfl) ?_
   refine LZ ?_
   refine F_seq ?_
   refine W_ret ?_
   have le3 : Le w w2 := (hq1.le hl1 (inc (Nat.le_refl _) hb1z inn))
   exact F_end2 rfl rfl rfl ⟨_, rfl, by rw [hok], le3⟩
theorem size {op : Int} {w : World} :
    Fn Try.prog 153 #[.int .i64 op] w fun v w' => v = .tuple #[.int .i64 (sizeR op), .bool (okOp op)] ∧ Le w w' := by
 refine Fn.enter 36 [(0, _)] Try.func153 rfl rfl rfl rfl ?_
 refine W_seq ?_
 refine W_reg (.pure 0 (.pure 1 .nil)) rfl ?_
 refine LP rfl rfl rfl (xas rfl) ?_
 refine LP rfl rfl rfl (xas rfl) ?_
 refine LZ ?_
 refine F_seq ?_
 refine W_seq ?_
 refine W_reg (.pure 0 (.one 1 (.pure 2 (.pure 3 (.pure 4 (.pure 5 (.pure 6 .nil))))))) rfl ?_
 refine LP rfl rfl rfl (xmv rfl) ?_
 refine LF rfl rfl rfl has154 rfl (form) ?_
 rintro _ w1 ⟨rfl, hl1⟩
 refine ⟨trivial, ?_⟩
 refine LP rfl rfl rfl (xmv rfl) ?_
 refine LP rfl rfl rfl (xext rfl rfl) ?_
 refine LP rfl rfl rfl (xext rfl rfl) ?_
 refine LP rfl rfl rfl (xas rfl) ?_
 refine LP rfl rfl rfl (xas rfl) ?_
 refine LZ ?_
 refine F_seq ?_
 refine W_seq ?_
 refine W_seq ?_
 refine W_reg (.pure 0 (.pure 1 .nil)) rfl ?_
 refine LP rfl rfl rfl (xmv rfl) ?_
 refine LP rfl rfl rfl (xnot rfl) ?_
 refine LZ ?_
 refine F_seq ?_
 refine W_cond rfl (fun c1 => ?_) (fun c1 => ?_)
 · -- c1 yes
  try simp only [Bool.not_eq_true', Bool.not_eq_false', decide_eq_true_eq, decide_eq_false_iff_not] at c1
  refine W_seq ?_
  refine W_reg (.pure 0 (.pure 1 .nil)) rfl ?_
  refine LP rfl rfl rfl (xas rfl) ?_
  refine LP rfl rfl rfl (xas rfl) ?_
  refine LZ ?_
  refine F_seq ?_
  refine W_ret ?_
  refine F_ret_then ?_
  exact F_end2 rfl rfl rfl ⟨_, rfl, by simp [c1, size_z c1], hl1⟩
 · -- c1 no
  try simp only [Bool.not_eq_true', Bool.not_eq_false', decide_eq_true_eq, decide_eq_false_iff_not] at c1
  refine W_skip ?_
  refine F_seq ?_
  refine W_seq ?_
  refine W_reg (.pure 0 .nil) rfl ?_
  refine LP rfl rfl rfl (xas rfl) ?_
  refine LZ ?_
  refine F_seq ?_
  refine W_seq ?_
  refine W_seq ?_
  refine W_reg (.pure 0 (.pure 1 (.pure 2 (.pure 3 (.pure 4 (.pure 5 (.pure 6 .nil))))))) rfl ?_
  refine LP rfl rfl rfl (xbd rfl (bd236_0ii_1ii (1 : Int) (1 : Int))) ?_
  refine LP rfl rfl rfl (xbd rfl (bd236_0ii_1ii (2 : Int) (1 : Int))) ?_
  refine LP rfl rfl rfl (xbd rfl (bd236_0ii_1ii (4 : Int) (1 : Int))) ?_
  refine LP rfl rfl rfl (xbd rfl (bd236_0ii_1ii (8 : Int) (2 : Int))) ?_
  refine LP rfl rfl rfl (xbd rfl (bd236_0ii_1ii (16 : Int) (2 : Int))) ?_
  refine LP rfl rfl rfl (xbd rfl (bd237_0iiiiiiiiii_1iiiiiiiiii_2iiiiiiiiii_3iiiiiiiiii_4iiiiiiiiii (1 : Int) (1 : Int) (2 : Int) (1 : Int) (4 : Int) (1 : Int) (8 : Int) (2 : Int) (16 : Int) (2 : Int))) ?_
  refine LP rfl rfl rfl (xmv rfl) ?_
  refine LZ ?_
  refine F_seq ?_
  refine W_block ?_
  refine W_loopv (ι := Nat) (fun k => [(6, .int .i64 (sizeK (formS op) (sizeT.take k))), (22, .int .i64 (k : Int))]) (fun k w' => Le w1 w' ∧ k ≤ 5) (fun k => 5 - k) 0 (hvc rfl (hvc rfl hvn)) ⟨Le.refl _, Nat.zero_le _⟩ ?_
  rintro k w2 ⟨hl2, hk⟩
  have hz := sizeK_rng (f := formS op) k
  refine W_seq ?_
  refine W_reg (.pure 0 .nil) rfl ?_
  refine LP rfl rfl rfl (xlss rfl rfl) ?_
  refine LZ ?_
  refine F_seq ?_
  refine W_seq ?_
  refine W_cond rfl (fun c2 => ?_) (fun c2 => ?_)
  · -- c2 yes
   replace c2 := of_decide_eq_true c2
   refine W_skip ?_
   refine F_seq ?_
   refine W_seq ?_
   refine W_block ?_
   refine W_seq ?_
   refine W_reg (.pure 0 (.one 1 (.one 2 .nil))) rfl ?_
   obtain ⟨p, hp⟩ : ∃ p, sizeT[k]? = some p := ⟨_, List.getElem?_eq_getElem (by simp [sizeT]; omega)⟩
   refine LP rfl rfl rfl (xidx k ar237 ag236 rfl rfl (by omega) (by omega) (size_table k p hp)) ?_
   refine LT rfl rfl rfl (xal zr236) ?_
   rintro _ w3 ⟨b1, rfl, hl3, hb1, hb1z⟩
   refine ⟨trivial, ?_⟩
   refine LU rfl rfl (xsb sz236 hb1 rfl rfl (agg_cells _) rfl rfl (al_cons rfl (al_cons rfl al_nil))) ?_
   rintro w4 ⟨hq1, hb2⟩
   dsimp only [put] at hb2
   refine ⟨trivial, ?_⟩
   refine LZ ?_
   refine F_seq ?_
   refine W_seq ?_
   refine W_reg (.pure 0 (.pure 1 (.one 2 (.pure 3 (.pure 4 .nil))))) rfl ?_
   refine LP rfl rfl rfl (xmv rfl) ?_
   refine LP rfl rfl rfl (xia 0 ar236 sz3 rfl rfl (by omega) (by omega)) ?_
   refine LX rfl rfl rfl (xld sc3 rfl (cl_bk hb2 rfl)) trivial ?_
   refine LP rfl rfl rfl (xand rfl rfl) ?_
   refine LP rfl rfl rfl (xneq rfl rfl) ?_
   refine LZ ?_
   refine F_seq ?_
   refine W_cond rfl (fun c3 => ?_) (fun c3 => ?_)
   · -- c3 yes
    try simp only [Bool.not_eq_true', Bool.not_eq_false', decide_eq_true_eq, decide_eq_false_iff_not] at c3
    have hst := sizeK_step (f := formS op) hp
    have hz1 := sizeK_rng (f := formS op) (k + 1)
    rw [if_neg (by simpa using c3)] at hst
    refine W_reg (.pure 0 (.pure 1 (.one 2 (.pure 3 (.pure 4 .nil))))) rfl ?_
    refine LP rfl rfl rfl (xmv rfl) ?_
    refine LP rfl rfl rfl (xia 1 ar236 sz3 rfl rfl (by omega) (by omega)) ?_
    refine LX rfl rfl rfl (xld sc3 rfl (cl_bk hb2 rfl)) trivial ?_
    refine LP rfl rfl rfl (xaddn rfl rfl (by omega)) ?_
    refine LP rfl rfl rfl (xas rfl) ?_
    refine LZ ?_
    refine F_block ?_
    refine F_seq ?_
    refine W_reg (.pure 0 (.pure 1 .nil)) rfl ?_
    refine LP rfl rfl rfl (xaddn rfl rfl (by omega)) ?_
    refine LP rfl rfl rfl (xmv rfl) ?_
    refine LZ ?_
    refine F_is 6 (v := .int .i64 (sizeK (formS op) (sizeT.take (k + 1)))) rfl (congrArg (Value.int .i64) hst.symm) ?_
    have le1 : Le w1 w4 := (hq1.le (hl2.trans hl3) (inc hl2.size hb1z inn))
    exact F_roundv (k + 1) ⟨le1, by omega⟩ (by (try dsimp only); omega) (lk_loop 16 rfl rfl (hvc rfl (hvc rfl hvn)))
   · -- c3 no
    try simp only [Bool.not_eq_true', Bool.not_eq_false', decide_eq_true_eq, decide_eq_false_iff_not] at c3
    have hst := sizeK_step (f := formS op) hp
    rw [if_pos (by simpa using c3)] at hst
    refine W_skip ?_
    refine F_block ?_
    refine F_seq ?_
    refine W_reg (.pure 0 (.pure 1 .nil)) rfl ?_
    refine LP rfl rfl rfl (xaddn rfl rfl (by omega)) ?_
    refine LP rfl rfl rfl (xmv rfl) ?_
    refine LZ ?_
    refine F_is 6 (v := .int .i64 (sizeK (formS op) (sizeT.take (k + 1)))) rfl (congrArg (Value.int .i64) hst.symm) ?_
    have le2 : Le w1 w4 := (hq1.le (hl2.trans hl3) (inc hl2.size hb1z inn))
    exact F_roundv (k + 1) ⟨le2, by omega⟩ (by (try dsimp only); omega) (lk_loop 11 rfl rfl (hvc rfl (hvc rfl hvn)))
  · -- c2 no
   replace c2 := of_decide_eq_false c2
   refine W_exit ?_
   refine F_exit_then ?_
   refine F_exit_then ?_
   refine F_exit_here ?_
   refine F_seq ?_
   refine W_seq ?_
   refine W_reg (.pure 0 (.pure 1 (.pure 2 .nil))) rfl ?_
   refine LP rfl rfl rfl (xmv rfl) ?_
   refine LP rfl rfl rfl (xas rfl) ?_
   refine LP rfl rfl rfl (xas rfl) ?_
   refine LZ ?_
   refine F_seq ?_
   refine W_ret ?_
   obtain rfl : k = 5 := by omega
   have he := (form_ok c1).size
   have h5 : sizeT.take 5 = sizeT := rfl
   exact F_end2 rfl rfl rfl ⟨_, rfl, by rw [c1, h5, he], (hl1.trans hl2)⟩
theorem r_size {op : Int} {w : World} :
    Fn Try.prog 123 #[.int .i64 op] w fun v w' => v = .int .i64 (sizeR op) ∧ Le w w' := by
 refine Fn.enter 28 [(0, _)] Try.func123 rfl rfl rfl rfl ?_
 refine W_seq ?_
 refine W_reg (.pure 0 .nil) rfl ?_
 refine LP rfl rfl rfl (xas rfl) ?_
 refine LZ ?_
 refine F_seq ?_
 refine W_seq ?_
 refine W_seq ?_
 refine W_reg (.pure 0 .nil) rfl ?_
 refine LP rfl rfl rfl (xmv rfl) ?_
 refine LZ ?_
 refine F_seq ?_
 refine W_block ?_
 refine W_seq ?_
 refine W_reg (.pure 0 (.pure 1 .nil)) rfl ?_
 refine LP rfl rfl rfl (xeql rfl rfl) ?_
 refine LP rfl rfl rfl (xas rfl) ?_
 refine LZ ?_
 refine F_seq ?_
 refine W_cond rfl (fun c1 => ?_) (fun c1 => ?_)
 · -- c1 yes
  replace c1 := of_decide_eq_true c1
  refine W_seq ?_
  refine W_reg (.pure 0 .nil) rfl ?_
  refine LP rfl rfl rfl (xas rfl) ?_
  refine LZ ?_
  refine F_seq ?_
  refine W_ret ?_
  refine F_ret_block ?_
  refine F_ret_then ?_
  exact F_end1 rfl rfl ⟨_, rfl, by first | (simp [sizeR, *]; done) | (simp [sizeR]; omega) | (simp [sizeR, *]; omega), (Le.refl _)⟩
 · -- c1 no
  replace c1 := of_decide_eq_false c1
  refine W_seq ?_
  refine W_seq ?_
  refine W_reg (.pure 0 (.pure 1 .nil)) rfl ?_
  refine LP rfl rfl rfl (xeql rfl rfl) ?_
  refine LP rfl rfl rfl (xas rfl) ?_
  refine LZ ?_
  refine F_seq ?_
  refine W_split (t := 6) rfl (fun c2 => ?_) (fun c2 => ?_)
  · -- c2 yes
   replace c2 := of_decide_eq_true c2
   refine W_if rfl ?_
   refine W_skip ?_
   refine F_seq ?_
   refine W_if rfl ?_
   refine W_seq ?_
   refine W_reg (.pure 0 .nil) rfl ?_
   refine LP rfl rfl rfl (xas rfl) ?_
   refine LZ ?_
   refine F_seq ?_
   refine W_ret ?_
   refine F_ret_block ?_
   refine F_ret_then ?_
   exact F_end1 rfl rfl ⟨_, rfl, by first | (simp [sizeR, *]; done) | (simp [sizeR]; omega) | (simp [sizeR, *]; omega), (Le.refl _)⟩
  · -- c2 no
   replace c2 := of_decide_eq_false c2
   refine W_else rfl ?_
   refine W_seq ?_
   refine W_reg (.pure 0 (.pure 1 .nil)) rfl ?_
   refine LP rfl rfl rfl (xeql rfl rfl) ?_
   refine LP rfl rfl rfl (xas rfl) ?_
   refine LZ ?_
   refine F_seq ?_
   refine W_split (t := 6) rfl (fun c4 => ?_) (fun c4 => ?_)
   · -- c4 yes
    replace c4 := of_decide_eq_true c4
    refine W_if rfl ?_
    refine W_skip ?_
    refine F_seq ?_
    refine W_if rfl ?_
    refine W_seq ?_
    refine W_reg (.pure 0 .nil) rfl ?_
    refine LP rfl rfl rfl (xas rfl) ?_
    refine LZ ?_
    refine F_seq ?_
    refine W_ret ?_
    refine F_ret_block ?_
    refine F_ret_then ?_
    exact F_end1 rfl rfl ⟨_, rfl, by first | (simp [sizeR, *]; done) | (simp [sizeR]; omega) | (simp [sizeR, *]; omega), (Le.refl _)⟩
   · -- c4 no
    replace c4 := of_decide_eq_false c4
    refine W_else rfl ?_
    refine W_reg (.pure 0 (.pure 1 .nil)) rfl ?_
    refine LP rfl rfl rfl (xeql rfl rfl) ?_
    refine LP rfl rfl rfl (xas rfl) ?_
    refine LZ ?_
    refine F_seq ?_
    refine W_split (t := 6) rfl (fun c6 => ?_) (fun c6 => ?_)
    · -- c6 yes
     replace c6 := of_decide_eq_true c6
     refine W_if rfl ?_
     refine W_seq ?_
     refine W_reg (.pure 0 .nil) rfl ?_
     refine LP rfl rfl rfl (xas rfl) ?_
     refine LZ ?_
     refine F_seq ?_
     refine W_ret ?_
     refine F_ret_block ?_
     refine F_ret_then ?_
     exact F_end1 rfl rfl ⟨_, rfl, by first | (simp [sizeR, *]; done) | (simp [sizeR]; omega) | (simp [sizeR, *]; omega), (Le.refl _)⟩
    · -- c6 no
     replace c6 := of_decide_eq_false c6
     refine W_else rfl ?_
     refine W_seq ?_
     refine W_seq ?_
     refine W_reg (.pure 0 (.pure 1 .nil)) rfl ?_
     refine LP rfl rfl rfl (xeql rfl rfl) ?_
     refine LP rfl rfl rfl (xas rfl) ?_
     refine LZ ?_
     refine F_seq ?_
     refine W_split (t := 10) rfl (fun c7 => ?_) (fun c7 => ?_)
     · -- c7 yes
      replace c7 := of_decide_eq_true c7
      refine W_if rfl ?_
      refine W_skip ?_
      refine F_seq ?_
      refine W_if rfl ?_
      refine W_seq ?_
      refine W_reg (.pure 0 .nil) rfl ?_
      refine LP rfl rfl rfl (xas rfl) ?_
      refine LZ ?_
      refine F_seq ?_
      refine W_ret ?_
      refine F_ret_block ?_
      refine F_ret_then ?_
      exact F_end1 rfl rfl ⟨_, rfl, by first | (simp [sizeR, *]; done) | (simp [sizeR]; omega) | (simp [sizeR, *]; omega), (Le.refl _)⟩
     · -- c7 no
      replace c7 := of_decide_eq_false c7
      refine W_else rfl ?_
      refine W_seq ?_
      refine W_reg (.pure 0 (.pure 1 .nil)) rfl ?_
      refine LP rfl rfl rfl (xeql rfl rfl) ?_
      refine LP rfl rfl rfl (xas rfl) ?_
      refine LZ ?_
      refine F_seq ?_
      refine W_split (t := 10) rfl (fun c9 => ?_) (fun c9 => ?_)
      · -- c9 yes
       replace c9 := of_decide_eq_true c9
       refine W_if rfl ?_
       refine W_skip ?_
       refine F_seq ?_
       refine W_if rfl ?_
       refine W_seq ?_
       refine W_reg (.pure 0 .nil) rfl ?_
       refine LP rfl rfl rfl (xas rfl) ?_
       refine LZ ?_
       refine F_seq ?_
       refine W_ret ?_
       refine F_ret_block ?_
       refine F_ret_then ?_
       exact F_end1 rfl rfl ⟨_, rfl, by first | (simp [sizeR, *]; done) | (simp [sizeR]; omega) | (simp [sizeR, *]; omega), (Le.refl _)⟩
      · -- c9 no
       replace c9 := of_decide_eq_false c9
       refine W_else rfl ?_
       refine W_seq ?_
       refine W_reg (.pure 0 (.pure 1 .nil)) rfl ?_
       refine LP rfl rfl rfl (xeql rfl rfl) ?_
       refine LP rfl rfl rfl (xas rfl) ?_
       refine LZ ?_
       refine F_seq ?_
       refine W_split (t := 10) rfl (fun c11 => ?_) (fun c11 => ?_)
       · -- c11 yes
        replace c11 := of_decide_eq_true c11
        refine W_if rfl ?_
        refine W_skip ?_
        refine F_seq ?_
        refine W_if rfl ?_
        refine W_seq ?_
        refine W_reg (.pure 0 .nil) rfl ?_
        refine LP rfl rfl rfl (xas rfl) ?_
        refine LZ ?_
        refine F_seq ?_
        refine W_ret ?_
        refine F_ret_block ?_
        refine F_ret_then ?_
        exact F_end1 rfl rfl ⟨_, rfl, by first | (simp [sizeR, *]; done) | (simp [sizeR]; omega) | (simp [sizeR, *]; omega), (Le.refl _)⟩
       · -- c11 no
        replace c11 := of_decide_eq_false c11
        refine W_else rfl ?_
        refine W_seq ?_
        refine W_reg (.pure 0 (.pure 1 .nil)) rfl ?_
        refine LP rfl rfl rfl (xeql rfl rfl) ?_
        refine LP rfl rfl rfl (xas rfl) ?_
        refine LZ ?_
        refine F_seq ?_
        refine W_split (t := 10) rfl (fun c13 => ?_) (fun c13 => ?_)
        · -- c13 yes
         replace c13 := of_decide_eq_true c13
         refine W_if rfl ?_
         refine W_skip ?_
         refine F_seq ?_
         refine W_if rfl ?_
         refine W_seq ?_
         refine W_reg (.pure 0 .nil) rfl ?_
         refine LP rfl rfl rfl (xas rfl) ?_
         refine LZ ?_
         refine F_seq ?_
         refine W_ret ?_
         refine F_ret_block ?_
         refine F_ret_then ?_
         exact F_end1 rfl rfl ⟨_, rfl, by first | (simp [sizeR, *]; done) | (simp [sizeR]; omega) | (simp [sizeR, *]; omega), (Le.refl _)⟩
        · -- c13 no
         replace c13 := of_decide_eq_false c13
         refine W_else rfl ?_
         refine W_seq ?_
         refine W_reg (.pure 0 (.pure 1 .nil)) rfl ?_
         refine LP rfl rfl rfl (xeql rfl rfl) ?_
         refine LP rfl rfl rfl (xas rfl) ?_
         refine LZ ?_
         refine F_seq ?_
         refine W_split (t := 10) rfl (fun c15 => ?_) (fun c15 => ?_)
         · -- c15 yes
          replace c15 := of_decide_eq_true c15
          refine W_if rfl ?_
          refine W_skip ?_
          refine F_seq ?_
          refine W_if rfl ?_
          refine W_seq ?_
          refine W_reg (.pure 0 .nil) rfl ?_
          refine LP rfl rfl rfl (xas rfl) ?_
          refine LZ ?_
          refine F_seq ?_
          refine W_ret ?_
          refine F_ret_block ?_
          refine F_ret_then ?_
          exact F_end1 rfl rfl ⟨_, rfl, by first | (simp [sizeR, *]; done) | (simp [sizeR]; omega) | (simp [sizeR, *]; omega), (Le.refl _)⟩
         · -- c15 no
          replace c15 := of_decide_eq_false c15
          refine W_else rfl ?_
          refine W_reg (.pure 0 (.pure 1 .nil)) rfl ?_
          refine LP rfl rfl rfl (xeql rfl rfl) ?_
          refine LP rfl rfl rfl (xas rfl) ?_
          refine LZ ?_
          refine F_seq ?_
          refine W_split (t := 10) rfl (fun c17 => ?_) (fun c17 => ?_)
          · -- c17 yes
           replace c17 := of_decide_eq_true c17
           refine W_if rfl ?_
           refine W_seq ?_
           refine W_reg (.pure 0 .nil) rfl ?_
           refine LP rfl rfl rfl (xas rfl) ?_
           refine LZ ?_
           refine F_seq ?_
           refine W_ret ?_
           refine F_ret_block ?_
           refine F_ret_then ?_
           exact F_end1 rfl rfl ⟨_, rfl, by first | (simp [sizeR, *]; done) | (simp [sizeR]; omega) | (simp [sizeR, *]; omega), (Le.refl _)⟩
          · -- c17 no
           replace c17 := of_decide_eq_false c17
           refine W_else rfl ?_
           refine W_seq ?_
           refine W_seq ?_
           refine W_reg (.pure 0 (.pure 1 .nil)) rfl ?_
           refine LP rfl rfl rfl (xeql rfl rfl) ?_
           refine LP rfl rfl rfl (xas rfl) ?_
           refine LZ ?_
           refine F_seq ?_
           refine W_split (t := 17) rfl (fun c18 => ?_) (fun c18 => ?_)
           · -- c18 yes
            replace c18 := of_decide_eq_true c18
            refine W_if rfl ?_
            refine W_skip ?_
            refine F_seq ?_
            refine W_if rfl ?_
            refine W_seq ?_
            refine W_reg (.pure 0 .nil) rfl ?_
            refine LP rfl rfl rfl (xas rfl) ?_
            refine LZ ?_
            refine F_seq ?_
            refine W_ret ?_
            refine F_ret_block ?_
            refine F_ret_then ?_
            exact F_end1 rfl rfl ⟨_, rfl, by first | (simp [sizeR, *]; done) | (simp [sizeR]; omega) | (simp [sizeR, *]; omega), (Le.refl _)⟩
           · -- c18 no
            replace c18 := of_decide_eq_false c18
            refine W_else rfl ?_
            refine W_seq ?_
            refine W_reg (.pure 0 (.pure 1 .nil)) rfl ?_
            refine LP rfl rfl rfl (xeql rfl rfl) ?_
            refine LP rfl rfl rfl (xas rfl) ?_
            refine LZ ?_
            refine F_seq ?_
            refine W_split (t := 17) rfl (fun c20 => ?_) (fun c20 => ?_)
            · -- c20 yes
             replace c20 := of_decide_eq_true c20
             refine W_if rfl ?_
             refine W_skip ?_
             refine F_seq ?_
             refine W_if rfl ?_
             refine W_seq ?_
             refine W_reg (.pure 0 .nil) rfl ?_
             refine LP rfl rfl rfl (xas rfl) ?_
             refine LZ ?_
             refine F_seq ?_
             refine W_ret ?_
             refine F_ret_block ?_
             refine F_ret_then ?_
             exact F_end1 rfl rfl ⟨_, rfl, by first | (simp [sizeR, *]; done) | (simp [sizeR]; omega) | (simp [sizeR, *]; omega), (Le.refl _)⟩
            · -- c20 no
             replace c20 := of_decide_eq_false c20
             refine W_else rfl ?_
             refine W_seq ?_
             refine W_reg (.pure 0 (.pure 1 .nil)) rfl ?_
             refine LP rfl rfl rfl (xeql rfl rfl) ?_
             refine LP rfl rfl rfl (xas rfl) ?_
             refine LZ ?_
             refine F_seq ?_
             refine W_split (t := 17) rfl (fun c22 => ?_) (fun c22 => ?_)
             · -- c22 yes
              replace c22 := of_decide_eq_true c22
              refine W_if rfl ?_
              refine W_skip ?_
              refine F_seq ?_
              refine W_if rfl ?_
              refine W_seq ?_
              refine W_reg (.pure 0 .nil) rfl ?_
              refine LP rfl rfl rfl (xas rfl) ?_
              refine LZ ?_
              refine F_seq ?_
              refine W_ret ?_
              refine F_ret_block ?_
              refine F_ret_then ?_
              exact F_end1 rfl rfl ⟨_, rfl, by first | (simp [sizeR, *]; done) | (simp [sizeR]; omega) | (simp [sizeR, *]; omega), (Le.refl _)⟩
             · -- c22 no
              replace c22 := of_decide_eq_false c22
              refine W_else rfl ?_
              refine W_reg (.pure 0 (.pure 1 .nil)) rfl ?_
              refine LP rfl rfl rfl (xeql rfl rfl) ?_
              refine LP rfl rfl rfl (xas rfl) ?_
              refine LZ ?_
              refine F_seq ?_
              refine W_split (t := 17) rfl (fun c24 => ?_) (fun c24 => ?_)
              · -- c24 yes
               replace c24 := of_decide_eq_true c24
               refine W_if rfl ?_
               refine W_seq ?_
               refine W_reg (.pure 0 .nil) rfl ?_
               refine LP rfl rfl rfl (xas rfl) ?_
               refine LZ ?_
               refine F_seq ?_
               refine W_ret ?_
               refine F_ret_block ?_
               refine F_ret_then ?_
               exact F_end1 rfl rfl ⟨_, rfl, by first | (simp [sizeR, *]; done) | (simp [sizeR]; omega) | (simp [sizeR, *]; omega), (Le.refl _)⟩
              · -- c24 no
               replace c24 := of_decide_eq_false c24
               refine W_else rfl ?_
               refine W_skip ?_
               refine F_block ?_
               refine F_seq ?_
               refine W_seq ?_
               refine W_seq ?_
               refine W_reg (.pure 0 (.pure 1 (.pure 2 (.pure 3 (.pure 4 (.pure 5 .nil)))))) rfl ?_
               refine LP rfl rfl rfl (xmv rfl) ?_
               refine LP rfl rfl rfl (xgeq rfl rfl) ?_
               refine LP rfl rfl rfl (xmv rfl) ?_
               refine L_split (t := 24) rfl (fun c25 => ?_) (fun c25 => ?_)
               · -- c25 yes
                replace c25 := of_decide_eq_true c25
                refine LP rfl rfl rfl (xmv rfl) ?_
                refine LP rfl rfl rfl (xleq rfl rfl) ?_
                refine LP rfl rfl rfl (xpk1 rfl rfl) ?_
                refine LZ ?_
                refine F_seq ?_
                refine W_cond rfl (fun c26 => ?_) (fun c26 => ?_)
                · -- c26 yes
                 replace c26 := of_decide_eq_true c26
                 refine W_seq ?_
                 refine W_reg (.pure 0 .nil) rfl ?_
                 refine LP rfl rfl rfl (xas rfl) ?_
                 refine LZ ?_
                 refine F_seq ?_
                 refine W_ret ?_
                 refine F_ret_then ?_
                 exact F_end1 rfl rfl ⟨_, rfl, by first | (simp [sizeR, *]; done) | (simp [sizeR]; omega) | (simp [sizeR, *]; omega), (Le.refl _)⟩
                · -- c26 no
                 replace c26 := of_decide_eq_false c26
                 refine W_skip ?_
                 refine F_seq ?_
                 refine W_seq ?_
                 refine W_reg (.pure 0 .nil) rfl ?_
                 refine LP rfl rfl rfl (xas rfl) ?_
                 refine LZ ?_
                 refine F_seq ?_
                 refine W_ret ?_
                 exact F_end1 rfl rfl ⟨_, rfl, by first | (simp [sizeR, *]; done) | (simp [sizeR]; omega) | (simp [sizeR, *]; omega), (Le.refl _)⟩
               · -- c25 no
                replace c25 := of_decide_eq_false c25
                refine LN rfl rfl rfl ?_
                refine LN rfl rfl rfl ?_
                refine LP rfl rfl rfl (xpk0 rfl rfl) ?_
                refine LZ ?_
                refine F_seq ?_
                refine W_else rfl ?_
                refine W_skip ?_
                refine F_seq ?_
                refine W_seq ?_
                refine W_reg (.pure 0 .nil) rfl ?_
                refine LP rfl rfl rfl (xas rfl) ?_
                refine LZ ?_
                refine F_seq ?_
                refine W_ret ?_
                exact F_end1 rfl rfl ⟨_, rfl, by first | (simp [sizeR, *]; done) | (simp [sizeR]; omega) | (simp [sizeR, *]; omega), (Le.refl _)⟩
theorem r_first {op : Int} {w : World} :
    Fn Try.prog 124 #[.int .i64 op] w fun v w' => v = .bool (firstR op) ∧ Le w w' := by
 refine Fn.enter 17 [(0, _)] Try.func124 rfl rfl rfl rfl ?_
 refine W_seq ?_
 refine W_reg (.pure 0 .nil) rfl ?_
 refine LP rfl rfl rfl (xas rfl) ?_
 refine LZ ?_
 refine F_seq ?_
 refine W_seq ?_
 refine W_reg (.pure 0 (.pure 1 (.pure 2 (.pure 3 (.pure 4 (.pure 5 (.pure 6 (.pure 7 (.pure 8 (.pure 9 (.pure 10 (.pure 11 (.pure 12 (.pure 13 (.pure 14 .nil))))))))))))))) rfl ?_
 refine LP rfl rfl rfl (xmv rfl) ?_
 refine LP rfl rfl rfl (xneq rfl rfl) ?_
 refine LP rfl rfl rfl (xmv rfl) ?_
 refine L_split (t := 5) rfl (fun c1 => ?_) (fun c1 => ?_)
 · -- c1 yes
  try simp only [Bool.not_eq_true', Bool.not_eq_false', decide_eq_true_eq, decide_eq_false_iff_not] at c1
  refine LP rfl rfl rfl (xmv rfl) ?_
  refine LP rfl rfl rfl (xneq rfl rfl) ?_
  refine LP rfl rfl rfl (xpk1 rfl rfl) ?_
  refine LP rfl rfl rfl (xmv rfl) ?_
  refine L_split (t := 9) rfl (fun c2 => ?_) (fun c2 => ?_)
  · -- c2 yes
   try simp only [Bool.not_eq_true', Bool.not_eq_false', decide_eq_true_eq, decide_eq_false_iff_not] at c2
   refine LP rfl rfl rfl (xmv rfl) ?_
   refine LP rfl rfl rfl (xneq rfl rfl) ?_
   refine LP rfl rfl rfl (xpk1 rfl rfl) ?_
   refine LP rfl rfl rfl (xmv rfl) ?_
   refine L_split (t := 13) rfl (fun c3 => ?_) (fun c3 => ?_)
   · -- c3 yes
    try simp only [Bool.not_eq_true', Bool.not_eq_false', decide_eq_true_eq, decide_eq_false_iff_not] at c3
    refine LP rfl rfl rfl (xmv rfl) ?_
    refine LP rfl rfl rfl (xneq rfl rfl) ?_
    refine LP rfl rfl rfl (xpk1 rfl rfl) ?_
    refine LP rfl rfl rfl (xas rfl) ?_
    refine LZ ?_
    refine F_seq ?_
    refine W_ret ?_
    exact F_end1 rfl rfl ⟨_, rfl, by first | (simp [firstR, *]; done) | (simp [firstR]; omega) | (simp [firstR, *]; omega), (Le.refl _)⟩
   · -- c3 no
    try simp only [Bool.not_eq_true', Bool.not_eq_false', decide_eq_true_eq, decide_eq_false_iff_not] at c3
    refine LN rfl rfl rfl ?_
    refine LN rfl rfl rfl ?_
    refine LP rfl rfl rfl (xpk0 rfl rfl) ?_
    refine LP rfl rfl rfl (xas rfl) ?_
    refine LZ ?_
    refine F_seq ?_
    refine W_ret ?_
    exact F_end1 rfl rfl ⟨_, rfl, by first | (simp [firstR, *]; done) | (simp [firstR]; omega) | (simp [firstR, *]; omega), (Le.refl _)⟩
  · -- c2 no
   try simp only [Bool.not_eq_true', Bool.not_eq_false', decide_eq_true_eq, decide_eq_false_iff_not] at c2
   refine LN rfl rfl rfl ?_
   refine LN rfl rfl rfl ?_
   refine LP rfl rfl rfl (xpk0 rfl rfl) ?_
   refine LP rfl rfl rfl (xmv rfl) ?_
   refine LN rfl rfl rfl ?_
   refine LN rfl rfl rfl ?_
   refine LP rfl rfl rfl (xpk0 rfl rfl) ?_
   refine LP rfl rfl rfl (xas rfl) ?_
   refine LZ ?_
   refine F_seq ?_
   refine W_ret ?_
   exact F_end1 rfl rfl ⟨_, rfl, by first | (simp [firstR, *]; done) | (simp [firstR]; omega) | (simp [firstR, *]; omega), (Le.refl _)⟩
 · -- c1 no
  try simp only [Bool.not_eq_true', Bool.not_eq_false', decide_eq_true_eq, decide_eq_false_iff_not] at c1
  refine LN rfl rfl rfl ?_
  refine LN rfl rfl rfl ?_
  refine LP rfl rfl rfl (xpk0 rfl rfl) ?_
  refine LP rfl rfl rfl (xmv rfl) ?_
  refine LN rfl rfl rfl ?_
  refine LN rfl rfl rfl ?_
  refine LP rfl rfl rfl (xpk0 rfl rfl) ?_
  refine LP rfl rfl rfl (xmv rfl) ?_
  refine LN rfl rfl rfl ?_
  refine LN rfl rfl rfl ?_
  refine LP rfl rfl rfl (xpk0 rfl rfl) ?_
  refine LP rfl rfl rfl (xas rfl) ?_
  refine LZ ?_
  refine F_seq ?_
  refine W_ret ?_
  exact F_end1 rfl rfl ⟨_, rfl, by first | (simp [firstR, *]; done) | (simp [firstR]; omega) | (simp [firstR, *]; omega), (Le.refl _)⟩
theorem r_two {op : Int} {w : World} :
    Fn Try.prog 125 #[.int .i64 op] w fun v w' => v = .bool (twoR op) ∧ Le w w' := by
 refine Fn.enter 25 [(0, _)] Try.func125 rfl rfl rfl rfl ?_
 refine W_seq ?_
 refine W_reg (.pure 0 .nil) rfl ?_
 refine LP rfl rfl rfl (xas rfl) ?_
 refine LZ ?_
 refine F_seq ?_
 refine W_seq ?_
 refine W_reg (.pure 0 (.pure 1 (.pure 2 (.pure 3 (.pure 4 (.pure 5 (.pure 6 (.pure 7 (.pure 8 (.pure 9 (.pure 10 (.pure 11 (.pure 12 (.pure 13 (.pure 14 (.pure 15 (.pure 16 (.pure 17 (.pure 18 (.pure 19 (.pure 20 (.pure 21 (.pure 22 .nil))))))))))))))))))))))) rfl ?_
 refine LP rfl rfl rfl (xmv rfl) ?_
 refine LP rfl rfl rfl (xgeq rfl rfl) ?_
 refine LP rfl rfl rfl (xmv rfl) ?_
 refine L_split (t := 5) rfl (fun c1 => ?_) (fun c1 => ?_)
 · -- c1 yes
  replace c1 := of_decide_eq_true c1
  refine LP rfl rfl rfl (xmv rfl) ?_
  refine LP rfl rfl rfl (xleq rfl rfl) ?_
  refine LP rfl rfl rfl (xpk1 rfl rfl) ?_
  refine LP rfl rfl rfl (xmv rfl) ?_
  refine L_split (t := 9) rfl (fun c2 => ?_) (fun c2 => ?_)
  · -- c2 yes
   replace c2 := of_decide_eq_true c2
   refine LN rfl rfl rfl ?_
   refine LN rfl rfl rfl ?_
   refine LP rfl rfl rfl (xpk1 rfl rfl) ?_
   refine LP rfl rfl rfl (xmv rfl) ?_
   refine LN rfl rfl rfl ?_
   refine LN rfl rfl rfl ?_
   refine LP rfl rfl rfl (xpk1 rfl rfl) ?_
   refine LP rfl rfl rfl (xmv rfl) ?_
   refine LN rfl rfl rfl ?_
   refine LN rfl rfl rfl ?_
   refine LP rfl rfl rfl (xpk1 rfl rfl) ?_
   refine LP rfl rfl rfl (xmv rfl) ?_
   refine LN rfl rfl rfl ?_
   refine LN rfl rfl rfl ?_
   refine LP rfl rfl rfl (xpk1 rfl rfl) ?_
   refine LP rfl rfl rfl (xas rfl) ?_
   refine LZ ?_
   refine F_seq ?_
   refine W_ret ?_
   exact F_end1 rfl rfl ⟨_, rfl, by first | (simp [twoR, *]; done) | (simp [twoR]; omega) | (simp [twoR, *]; omega), (Le.refl _)⟩
  · -- c2 no
   replace c2 := of_decide_eq_false c2
   refine LP rfl rfl rfl (xmv rfl) ?_
   refine LP rfl rfl rfl (xeql rfl rfl) ?_
   refine LP rfl rfl rfl (xpk0 rfl rfl) ?_
   refine LP rfl rfl rfl (xmv rfl) ?_
   refine L_split (t := 13) rfl (fun c3 => ?_) (fun c3 => ?_)
   · -- c3 yes
    replace c3 := of_decide_eq_true c3
    refine LN rfl rfl rfl ?_
    refine LN rfl rfl rfl ?_
    refine LP rfl rfl rfl (xpk1 rfl rfl) ?_
    refine LP rfl rfl rfl (xmv rfl) ?_
    refine LN rfl rfl rfl ?_
    refine LN rfl rfl rfl ?_
    refine LP rfl rfl rfl (xpk1 rfl rfl) ?_
    refine LP rfl rfl rfl (xmv rfl) ?_
    refine LN rfl rfl rfl ?_
    refine LN rfl rfl rfl ?_
    refine LP rfl rfl rfl (xpk1 rfl rfl) ?_
    refine LP rfl rfl rfl (xas rfl) ?_
    refine LZ ?_
    refine F_seq ?_
    refine W_ret ?_
    exact F_end1 rfl rfl ⟨_, rfl, by first | (simp [twoR, *]; done) | (simp [twoR]; omega) | (simp [twoR, *]; omega), (Le.refl _)⟩
   · -- c3 no
    replace c3 := of_decide_eq_false c3
    refine LP rfl rfl rfl (xmv rfl) ?_
    refine LP rfl rfl rfl (xeql rfl rfl) ?_
    refine LP rfl rfl rfl (xpk0 rfl rfl) ?_
    refine LP rfl rfl rfl (xmv rfl) ?_
    refine L_split (t := 17) rfl (fun c4 => ?_) (fun c4 => ?_)
    · -- c4 yes
     replace c4 := of_decide_eq_true c4
     refine LN rfl rfl rfl ?_
     refine LN rfl rfl rfl ?_
     refine LP rfl rfl rfl (xpk1 rfl rfl) ?_
     refine LP rfl rfl rfl (xmv rfl) ?_
     refine LN rfl rfl rfl ?_
     refine LN rfl rfl rfl ?_
     refine LP rfl rfl rfl (xpk1 rfl rfl) ?_
     refine LP rfl rfl rfl (xas rfl) ?_
     refine LZ ?_
     refine F_seq ?_
     refine W_ret ?_
     exact F_end1 rfl rfl ⟨_, rfl, by first | (simp [twoR, *]; done) | (simp [twoR]; omega) | (simp [twoR, *]; omega), (Le.refl _)⟩
    · -- c4 no
     replace c4 := of_decide_eq_false c4
     refine LP rfl rfl rfl (xmv rfl) ?_
     refine LP rfl rfl rfl (xeql rfl rfl) ?_
     refine LP rfl rfl rfl (xpk0 rfl rfl) ?_
     refine LP rfl rfl rfl (xmv rfl) ?_
     refine L_split (t := 21) rfl (fun c5 => ?_) (fun c5 => ?_)
     · -- c5 yes
      replace c5 := of_decide_eq_true c5
      refine LN rfl rfl rfl ?_
      refine LN rfl rfl rfl ?_
      refine LP rfl rfl rfl (xpk1 rfl rfl) ?_
      refine LP rfl rfl rfl (xas rfl) ?_
      refine LZ ?_
      refine F_seq ?_
      refine W_ret ?_
      exact F_end1 rfl rfl ⟨_, rfl, by first | (simp [twoR, *]; done) | (simp [twoR]; omega) | (simp [twoR, *]; omega), (Le.refl _)⟩
     · -- c5 no
      replace c5 := of_decide_eq_false c5
      refine LP rfl rfl rfl (xmv rfl) ?_
      refine LP rfl rfl rfl (xeql rfl rfl) ?_
      refine LP rfl rfl rfl (xpk0 rfl rfl) ?_
      refine LP rfl rfl rfl (xas rfl) ?_
      refine LZ ?_
      refine F_seq ?_
      refine W_ret ?_
      exact F_end1 rfl rfl ⟨_, rfl, by first | (simp [twoR, *]; done) | (simp [twoR]; omega) | (simp [twoR, *]; omega), (Le.refl _)⟩
 · -- c1 no
  replace c1 := of_decide_eq_false c1
  refine LN rfl rfl rfl ?_
  refine LN rfl rfl rfl ?_
  refine LP rfl rfl rfl (xpk0 rfl rfl) ?_
  refine LP rfl rfl rfl (xmv rfl) ?_
  refine LP rfl rfl rfl (xmv rfl) ?_
  refine LP rfl rfl rfl (xeql rfl rfl) ?_
  refine LP rfl rfl rfl (xpk0 rfl rfl) ?_
  refine LP rfl rfl rfl (xmv rfl) ?_
  refine L_split (t := 13) rfl (fun c6 => ?_) (fun c6 => ?_)
  · -- c6 yes
   replace c6 := of_decide_eq_true c6
   refine LN rfl rfl rfl ?_
   refine LN rfl rfl rfl ?_
   refine LP rfl rfl rfl (xpk1 rfl rfl) ?_
   refine LP rfl rfl rfl (xmv rfl) ?_
   refine LN rfl rfl rfl ?_
   refine LN rfl rfl rfl ?_
   refine LP rfl rfl rfl (xpk1 rfl rfl) ?_
   refine LP rfl rfl rfl (xmv rfl) ?_
   refine LN rfl rfl rfl ?_
   refine LN rfl rfl rfl ?_
   refine LP rfl rfl rfl (xpk1 rfl rfl) ?_
   refine LP rfl rfl rfl (xas rfl) ?_
   refine LZ ?_
   refine F_seq ?_
   refine W_ret ?_
   exact F_end1 rfl rfl ⟨_, rfl, by first | (simp [twoR, *]; done) | (simp [twoR]; omega) | (simp [twoR, *]; omega), (Le.refl _)⟩
  · -- c6 no
   replace c6 := of_decide_eq_false c6
   refine LP rfl rfl rfl (xmv rfl) ?_
   refine LP rfl rfl rfl (xeql rfl rfl) ?_
   refine LP rfl rfl rfl (xpk0 rfl rfl) ?_
   refine LP rfl rfl rfl (xmv rfl) ?_
   refine L_split (t := 17) rfl (fun c7 => ?_) (fun c7 => ?_)
   · -- c7 yes
    replace c7 := of_decide_eq_true c7
    refine LN rfl rfl rfl ?_
    refine LN rfl rfl rfl ?_
    refine LP rfl rfl rfl (xpk1 rfl rfl) ?_
    refine LP rfl rfl rfl (xmv rfl) ?_
    refine LN rfl rfl rfl ?_
    refine LN rfl rfl rfl ?_
    refine LP rfl rfl rfl (xpk1 rfl rfl) ?_
    refine LP rfl rfl rfl (xas rfl) ?_
    refine LZ ?_
    refine F_seq ?_
    refine W_ret ?_
    exact F_end1 rfl rfl ⟨_, rfl, by first | (simp [twoR, *]; done) | (simp [twoR]; omega) | (simp [twoR, *]; omega), (Le.refl _)⟩
   · -- c7 no
    replace c7 := of_decide_eq_false c7
    refine LP rfl rfl rfl (xmv rfl) ?_
    refine LP rfl rfl rfl (xeql rfl rfl) ?_
    refine LP rfl rfl rfl (xpk0 rfl rfl) ?_
    refine LP rfl rfl rfl (xmv rfl) ?_
    refine L_split (t := 21) rfl (fun c8 => ?_) (fun c8 => ?_)
    · -- c8 yes
     replace c8 := of_decide_eq_true c8
     refine LN rfl rfl rfl ?_
     refine LN rfl rfl rfl ?_
     refine LP rfl rfl rfl (xpk1 rfl rfl) ?_
     refine LP rfl rfl rfl (xas rfl) ?_
     refine LZ ?_
     refine F_seq ?_
     refine W_ret ?_
     exact F_end1 rfl rfl ⟨_, rfl, by first | (simp [twoR, *]; done) | (simp [twoR]; omega) | (simp [twoR, *]; omega), (Le.refl _)⟩
    · -- c8 no
     replace c8 := of_decide_eq_false c8
     refine LP rfl rfl rfl (xmv rfl) ?_
     refine LP rfl rfl rfl (xeql rfl rfl) ?_
     refine LP rfl rfl rfl (xpk0 rfl rfl) ?_
     refine LP rfl rfl rfl (xas rfl) ?_
     refine LZ ?_
     refine F_seq ?_
     refine W_ret ?_
     exact F_end1 rfl rfl ⟨_, rfl, by first | (simp [twoR, *]; done) | (simp [twoR]; omega) | (simp [twoR, *]; omega), (Le.refl _)⟩
theorem r_jumps {op : Int} {w : World} :
    Fn Try.prog 141 #[.int .i64 op] w fun v w' => v = .bool (jumpR op) ∧ Le w w' := by
 refine Fn.enter 9 [(0, _)] Try.func141 rfl rfl rfl rfl ?_
 refine W_seq ?_
 refine W_reg (.pure 0 .nil) rfl ?_
 refine LP rfl rfl rfl (xas rfl) ?_
 refine LZ ?_
 refine F_seq ?_
 refine W_seq ?_
 refine W_reg (.pure 0 (.pure 1 (.pure 2 (.pure 3 (.pure 4 (.pure 5 (.pure 6 .nil))))))) rfl ?_
 refine LP rfl rfl rfl (xmv rfl) ?_
 refine LP rfl rfl rfl (xeql rfl rfl) ?_
 refine LP rfl rfl rfl (xmv rfl) ?_
 refine L_split (t := 5) rfl (fun c1 => ?_) (fun c1 => ?_)
 · -- c1 yes
  replace c1 := of_decide_eq_true c1
  refine LN rfl rfl rfl ?_
  refine LN rfl rfl rfl ?_
  refine LP rfl rfl rfl (xpk1 rfl rfl) ?_
  refine LP rfl rfl rfl (xas rfl) ?_
  refine LZ ?_
  refine F_seq ?_
  refine W_ret ?_
  exact F_end1 rfl rfl ⟨_, rfl, by first | (simp [jumpR, *]; done) | (simp [jumpR]; omega) | (simp [jumpR, *]; omega), (Le.refl _)⟩
 · -- c1 no
  replace c1 := of_decide_eq_false c1
  refine LP rfl rfl rfl (xmv rfl) ?_
  refine LP rfl rfl rfl (xeql rfl rfl) ?_
  refine LP rfl rfl rfl (xpk0 rfl rfl) ?_
  refine LP rfl rfl rfl (xas rfl) ?_
  refine LZ ?_
  refine F_seq ?_
  refine W_ret ?_
  exact F_end1 rfl rfl ⟨_, rfl, by first | (simp [jumpR, *]; done) | (simp [jumpR]; omega) | (simp [jumpR, *]; omega), (Le.refl _)⟩
end Go.Proofs.Ythmhbonhagjnnaa
