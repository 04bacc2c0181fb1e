/- Answers that the document fixes. -/
import Derived.Test.YthmhbonhagjnnaaProg
import Derived.Test.YthmhbonhagjnnaaC6
import Derived.Test.YthmhbonhagjnnaaLp
import Derived.KernelRfl
namespace Go.Proofs.Ythmhbonhagjnnaa
open Go.RowKit
set_option linter.unusedVariables false
set_option linter.unusedSimpArgs false
theorem has14_C9 : Has Try.prog 14 Try.f14 := ⟨Try.func14, by kernel_rfl, rfl⟩
theorem has17_C9 : Has Try.prog 17 Try.f17 := ⟨Try.func17, by kernel_rfl, rfl⟩
theorem has57_C9 : Has Try.prog 57 Try.f57 := ⟨Try.func57, by kernel_rfl, rfl⟩
theorem bd50_2i_C9 : ∀ (x2_0 : Int), BD Try.prog 50 [(2, .int .i64 x2_0)] #[.int .i64 0, .slice none 0 0, .int .i64 x2_0, .int .i64 0] := fun _ => fun _ => by kernel_rfl
theorem bd52_0iiisii_1iiisii_2iiisii_C9 : ∀ (x0_0 : Int) (x1_0 : Int) (x2_0 : Int) (Ax2_1 : Option Addr) (nx2_1 cx2_1 : Nat) (x2_2 : Int) (x2_3 : Int), BD Try.prog 52 [(0, .int .i64 x0_0), (1, .int .i64 x1_0), (2, .agg #[.int .i64 x2_0, .slice Ax2_1 nx2_1 cx2_1, .int .i64 x2_2, .int .i64 x2_3])] #[.int .i64 x0_0, .int .i64 x1_0, .int .i64 x2_0, .slice Ax2_1 nx2_1 cx2_1, .int .i64 x2_2, .int .i64 x2_3] := fun _ _ _ _ _ _ _ _ => fun _ => by kernel_rfl
theorem has58_C9 : Has Try.prog 58 Try.f58 := ⟨Try.func58, by kernel_rfl, rfl⟩
theorem has59_C9 : Has Try.prog 59 Try.f59 := ⟨Try.func59, by kernel_rfl, rfl⟩
theorem live25  {w : World} :
    Fn Try.prog 16 #[] w fun v w' => v = .bool true ∧ Le w w' := by
 refine Fn.enter 83 [] Try.func16 rfl rfl rfl rfl ?_
 refine W_seq ?_
 refine W_reg (.pure 0 .nil) rfl ?_
 refine LP rfl rfl rfl (xas rfl) ?_
 refine LZ ?_
 refine F_seq ?_
 refine W_seq ?_
 refine W_reg (.one 0 (.pure 1 (.pure 2 (.pure 3 (.pure 4 (.pure 5 .nil)))))) rfl ?_
 refine LF rfl rfl rfl has14_C9 rfl (c_new (se := (3 : Int)) (reps := (3 : Int))) ?_
 rintro _ w1 (⟨hne1, rfl, hl1⟩ | ⟨he1, b1, wm1, rfl, hl2, hz1, hl3, hcl1⟩)
 ·
  exact absurd (by decide) hne1
 ·
  refine ⟨trivial, ?_⟩
  obtain ⟨S, hSd⟩ : ∃ S, S = [b1] := ⟨_, rfl⟩
  have hmc : b1 ∈ S := by rw [hSd]; simp
  obtain ⟨z1, z2, z3, z4, z5, hb1, hz2, hz3, hz4, hz5, hz6⟩ := (⟨_, _, _, _, _, hcl1 S⟩ : Cl S w1 116 b1 (newC 3 3))
  have hS : ∀ i ∈ S, i < w1.heap.size := by rw [hSd]; exact lt_cons (bk_lt hb1) lt_nil
  refine LP rfl rfl rfl (xmv rfl) ?_
  refine LP rfl rfl rfl (xext rfl rfl) ?_
  refine LP rfl rfl rfl (xext rfl rfl) ?_
  refine LP rfl rfl rfl (xas rfl) ?_
  refine LP rfl rfl rfl (xas rfl) ?_
  refine LZ ?_
  refine F_seq ?_
  refine W_seq ?_
  refine W_seq ?_
  refine W_reg (.pure 0 (.pure 1 (.pure 2 (.pure 3 (.pure 4 (.pure 5 .nil)))))) rfl ?_
  refine LP rfl rfl rfl (xmv rfl) ?_
  refine LP rfl rfl rfl (xneq rfl rfl) ?_
  refine L_is 14 (v := .bool false) rfl (by simp) ?_
  refine LP rfl rfl rfl (xmv rfl) ?_
  refine LP rfl rfl rfl (xmv rfl) ?_
  refine LP rfl rfl rfl (xpn pt27 rfl rfl) ?_
  refine LP rfl rfl rfl (xpk0 rfl rfl) ?_
  refine LZ ?_
  refine F_seq ?_
  refine W_else rfl ?_
  refine W_skip ?_
  refine F_seq ?_
  refine W_seq ?_
  refine W_reg (.pure 0 (.pure 1 (.one 2 (.pure 3 (.pure 4 (.pure 5 (.one 6 (.one 7 (.pure 8 .nil))))))))) rfl ?_
  refine LP rfl rfl rfl (xmv rfl) ?_
  refine LP rfl rfl rfl (xbd rfl (bd26_ ())) ?_
  refine LF rfl rfl rfl has17_C9 rfl (c_submit (S := S) (⟨_, _, _, _, _, hb1, hz2, hz3, hz4, hz5, hz6⟩ : Cl S w1 116 b1 (newC 3 3)) (newC_ok (se := 3) (reps := 3) rfl) hmc (lt_le hS (Nat.le_refl _)) (t := ⟨0, 0, [], [], [], []⟩) (rep := (1 : Int)) (RdE.nil _ _) (RdE.nil _ _) (RdE.nil _ _) (RdE.nil _ _) zTxn_small (by simp)) ?_
  rintro _ w2 (⟨qne1, rfl, qle1⟩ | ⟨qeq1, qxc1, qxa1, qxr1, qxw1, rfl, qlx1, qcl1, qoc1, qoa1, qor1, qow1, qof1⟩)
  ·
   exact absurd (by decide) qne1
  ·
   have hk1 := Lx.rdx2 qlx1 hz2.rd rfl (dr_in hmc dr_nil) hz2
   have hk2 := Lx.rdx2 qlx1 hz3.rd rfl (dr_in hmc dr_nil) hz3
   have hk3 := Lx.rdx2 qlx1 hz4.rd rfl (dr_in hmc dr_nil) hz4
   have hk4 := Lx.rdx2 qlx1 hz5.rd rfl (dr_in hmc dr_nil) hz5
   have hk5 := Lx.rdx2 qlx1 hz6.rd rfl (dr_in hmc dr_nil) hz6
   obtain ⟨z6, z7, z8, z9, z10, hb2, hz7, hz8, hz9, hz10, hz11⟩ := (show Cl S w2 116 b1 (liveC 0) from qcl1.less fun i hi => List.mem_append_right _ hi)
   refine ⟨trivial, ?_⟩
   refine LP rfl rfl rfl (xmv rfl) ?_
   refine LP rfl rfl rfl (xext rfl rfl) ?_
   refine LP rfl rfl rfl (xext rfl rfl) ?_
   refine LT rfl rfl rfl (xal zr36) ?_
   rintro _ w3 ⟨b2, rfl, hl4, hb3, hb3z⟩
   refine ⟨trivial, ?_⟩
   refine LU rfl rfl (xsb sz36 hb3 rfl rfl (agg_cells _) rfl rfl (al_cons rfl (al_cons rfl (al_cons rfl (al_cons qoc1.rd.sh.one (al_cons qoa1.rd.sh.one (al_cons qor1.rd.sh.one (al_cons qow1.rd.sh.one (al_cons rfl (al_cons rfl (al_cons rfl al_nil))))))))))) ?_
   rintro w4 ⟨hq1, hb4⟩
   dsimp only [put] at hb4
   refine ⟨trivial, ?_⟩
   refine LP rfl rfl rfl (xas rfl) ?_
   refine LZ ?_
   refine F_seq ?_
   refine W_seq ?_
   refine W_seq ?_
   refine W_reg (.pure 0 (.pure 1 (.pure 2 (.pure 3 (.one 4 (.pure 5 (.pure 6 (.pure 7 (.pure 8 (.pure 9 (.one 10 (.pure 11 (.pure 12 (.pure 13 (.pure 14 (.pure 15 (.one 16 (.pure 17 (.pure 18 .nil))))))))))))))))))) rfl ?_
   refine LP rfl rfl rfl (xmv rfl) ?_
   refine LP rfl rfl rfl (xneq rfl rfl) ?_
   refine L_is 26 (v := .bool false) rfl (by simp) ?_
   refine LP rfl rfl rfl (xmv rfl) ?_
   refine LP rfl rfl rfl (xfa fa36_0 rfl) ?_
   refine LX rfl rfl rfl (xld sc3 rfl (cl_bk hb4 rfl)) trivial ?_
   refine LP rfl rfl rfl (xneq rfl rfl) ?_
   refine L_is 30 (v := .bool false) rfl (by simp) ?_
   refine LP rfl rfl rfl (xpk0 rfl rfl) ?_
   refine LP rfl rfl rfl (xmv rfl) ?_
   refine LP rfl rfl rfl (xfa fa36_1 rfl) ?_
   refine LP rfl rfl rfl (xfa fa26_0 rfl) ?_
   refine LX rfl rfl rfl (xld sc2 rfl (cl_bk hb4 rfl)) trivial ?_
   refine LP rfl rfl rfl (xneq rfl rfl) ?_
   refine L_is 36 (v := .bool false) rfl (congrArg Value.bool (by decide)) ?_
   refine LP rfl rfl rfl (xpk0 rfl rfl) ?_
   refine LP rfl rfl rfl (xmv rfl) ?_
   refine LP rfl rfl rfl (xfa fa36_1 rfl) ?_
   refine LP rfl rfl rfl (xfa fa26_1 rfl) ?_
   refine LX rfl rfl rfl (xld sc2 rfl (cl_bk hb4 rfl)) trivial ?_
   refine LP rfl rfl rfl (xneq rfl rfl) ?_
   refine L_is 42 (v := .bool false) rfl (congrArg Value.bool (by decide)) ?_
   refine LP rfl rfl rfl (xpk0 rfl rfl) ?_
   refine LZ ?_
   refine F_seq ?_
   refine W_else rfl ?_
   refine W_skip ?_
   refine F_seq ?_
   refine W_seq ?_
   refine W_seq ?_
   refine W_reg (.pure 0 .nil) rfl ?_
   refine LP rfl rfl rfl (xmv rfl) ?_
   refine LZ ?_
   refine F_seq ?_
   refine W_block ?_
   have le1 : Le w2 w4 := (hq1.le hl4 (inc (Nat.le_refl _) hb3z inn))
   have le2 : Le w w2 := (qlx1.le (hl2.trans hl3) (inc hl2.size hz1 inn))
   have le3 : Le w w4 := (hq1.le (le2.trans hl4) (inc (Nat.le_trans hl2.size (Nat.le_trans hl3.size qlx1.size)) hb3z inn))
   refine W_loopv (ι := Nat) (fun k => [(44, .int .i64 (k : Int))]) (fun k w' => Le w w' ∧ k ≤ 11 ∧ Cl S w' 116 b1 (liveC k)) (fun k => 11 - k) 0 (hvc rfl hvn) ⟨le3, by omega, (⟨_, _, _, _, _, (Le.bk le1 hb2), (Le.rdx le1 hz7), (Le.rdx le1 hz8), (Le.rdx le1 hz9), (Le.rdx le1 hz10), (Le.rdx le1 hz11)⟩ : Cl S w4 116 b1 (liveC 0))⟩ ?_
   rintro k w5 ⟨hl5, hk, hcl⟩
   obtain ⟨z11, z12, z13, z14, z15, hb5, hz12, hz13, hz14, hz15, hz16⟩ := hcl
   have hS : ∀ i ∈ S, i < w5.heap.size := by rw [hSd]; exact lt_cons (bk_lt hb5) lt_nil
   refine W_seq ?_
   refine W_reg (.pure 0 .nil) rfl ?_
   refine LP rfl rfl rfl (xlss rfl rfl) ?_
   refine LZ ?_
   refine F_seq ?_
   refine W_seq ?_
   refine W_cond rfl (fun c3 => ?_) (fun c3 => ?_)
   · -- c3 yes
    replace c3 := of_decide_eq_true c3
    refine W_skip ?_
    refine F_seq ?_
    refine W_seq ?_
    refine W_block ?_
    refine W_seq ?_
    refine W_reg (.pure 0 (.one 1 (.pure 2 (.pure 3 (.pure 4 (.one 5 (.one 6 (.pure 7 .nil)))))))) rfl ?_
    refine LP rfl rfl rfl (xmv rfl) ?_
    refine LF rfl rfl rfl has57_C9 rfl (c_tick (S := S) (⟨_, _, _, _, _, hb5, hz12, hz13, hz14, hz15, hz16⟩ : Cl S w5 116 b1 (liveC k)) (liveC_ok (k := k) (by omega)) hmc (lt_le hS (Nat.le_refl _)) ) ?_
    rintro _ w6 (⟨qf1, rfl, qlx2, qcl2⟩ | ⟨qf2, qxc2, qxa2, qxr2, qxw2, rfl, qlx3, qcl3, qoc2, qoa2, qor2, qow2⟩)
    ·
     have hk6 := Lx.rdx2 qlx2 hz12.rd rfl (dr_in hmc dr_nil) hz12
     have hk7 := Lx.rdx2 qlx2 hz13.rd rfl (dr_in hmc dr_nil) hz13
     have hk8 := Lx.rdx2 qlx2 hz14.rd rfl (dr_in hmc dr_nil) hz14
     have hk9 := Lx.rdx2 qlx2 hz15.rd rfl (dr_in hmc dr_nil) hz15
     have hk10 := Lx.rdx2 qlx2 hz16.rd rfl (dr_in hmc dr_nil) hz16
     obtain ⟨z16, z17, z18, z19, z20, hb6, hz17, hz18, hz19, hz20, hz21⟩ := (liveC_tick (k := k) (by omega) ▸ qcl2)
     refine ⟨trivial, ?_⟩
     refine LP rfl rfl rfl (xmv rfl) ?_
     refine LP rfl rfl rfl (xext rfl rfl) ?_
     refine LP rfl rfl rfl (xext rfl rfl) ?_
     refine LT rfl rfl rfl (xal zr36) ?_
     rintro _ w7 ⟨b3, rfl, hl6, hb7, hb7z⟩
     refine ⟨trivial, ?_⟩
     refine LU rfl rfl (xsb sz36 hb7 rfl rfl (agg_cells _) rfl rfl (al_cons rfl (al_cons rfl (al_cons rfl (al_cons rfl (al_cons rfl (al_cons rfl (al_cons rfl (al_cons rfl (al_cons rfl (al_cons rfl al_nil))))))))))) ?_
     rintro w8 ⟨hq2, hb8⟩
     dsimp only [put] at hb8
     refine ⟨trivial, ?_⟩
     refine LP rfl rfl rfl (xas rfl) ?_
     refine LZ ?_
     refine F_seq ?_
     refine W_seq ?_
     refine W_reg (.pure 0 .nil) rfl ?_
     refine LP rfl rfl rfl (xmv rfl) ?_
     refine LZ ?_
     refine F_seq ?_
     refine W_else rfl ?_
     refine W_skip ?_
     refine F_block ?_
     refine F_seq ?_
     refine W_reg (.pure 0 (.pure 1 .nil)) rfl ?_
     refine LP rfl rfl rfl (xaddn rfl rfl (by omega)) ?_
     refine LP rfl rfl rfl (xmv rfl) ?_
     refine LZ ?_
     have le4 : Le w6 w8 := (hq2.le hl6 (inc (Nat.le_refl _) hb7z inn))
     have le5 : Le w w6 := (qlx2.le hl5 (inc hl2.size hz1 inn))
     have le6 : Le w w8 := (hq2.le (le5.trans hl6) (inc (Nat.le_trans hl5.size qlx2.size) hb7z inn))
     exact F_roundv (k + 1) ⟨le6, by omega, (⟨_, _, _, _, _, (Le.bk le4 hb6), (Le.rdx le4 hz17), (Le.rdx le4 hz18), (Le.rdx le4 hz19), (Le.rdx le4 hz20), (Le.rdx le4 hz21)⟩ : Cl S w8 116 b1 (liveC (k + 1)))⟩ (by (try dsimp only); omega) (lk_loop 11 rfl rfl (hvc rfl hvn))
    ·
     exact absurd ((liveC_no (k := k) (by omega)).symm.trans qf2) (by decide)
   · -- c3 no
    replace c3 := of_decide_eq_false c3
    obtain rfl : k = 11 := by omega
    refine W_exit ?_
    refine F_exit_then ?_
    refine F_exit_then ?_
    refine F_exit_here ?_
    refine F_seq ?_
    refine W_seq ?_
    refine W_reg (.pure 0 (.one 1 (.pure 2 (.pure 3 (.pure 4 (.one 5 (.one 6 (.pure 7 .nil)))))))) rfl ?_
    refine LP rfl rfl rfl (xmv rfl) ?_
    refine LF rfl rfl rfl has57_C9 rfl (c_tick (S := S) (⟨_, _, _, _, _, hb5, hz12, hz13, hz14, hz15, hz16⟩ : Cl S w5 116 b1 (liveC 11)) (liveC_ok (k := 11) (by omega)) hmc (lt_le hS (Nat.le_refl _)) ) ?_
    rintro _ w9 (⟨qf3, rfl, qlx4, qcl4⟩ | ⟨qf4, qxc3, qxa3, qxr3, qxw3, rfl, qlx5, qcl5, qoc3, qoa3, qor3, qow3⟩)
    ·
     exact absurd qf3 (by decide)
    ·
     have hk11 := Lx.rdx2 qlx5 hz12.rd rfl (dr_in hmc dr_nil) hz12
     have hk12 := Lx.rdx2 qlx5 hz13.rd rfl (dr_in hmc dr_nil) hz13
     have hk13 := Lx.rdx2 qlx5 hz14.rd rfl (dr_in hmc dr_nil) hz14
     have hk14 := Lx.rdx2 qlx5 hz15.rd rfl (dr_in hmc dr_nil) hz15
     have hk15 := Lx.rdx2 qlx5 hz16.rd rfl (dr_in hmc dr_nil) hz16
     obtain ⟨z21, z22, z23, z24, z25, hb9, hz22, hz23, hz24, hz25, hz26⟩ := qcl5
     refine ⟨trivial, ?_⟩
     refine LP rfl rfl rfl (xmv rfl) ?_
     refine LP rfl rfl rfl (xext rfl rfl) ?_
     refine LP rfl rfl rfl (xext rfl rfl) ?_
     refine LT rfl rfl rfl (xal zr36) ?_
     rintro _ w10 ⟨b4, rfl, hl7, hb10, hb10z⟩
     refine ⟨trivial, ?_⟩
     refine LU rfl rfl (xsb sz36 hb10 rfl rfl (agg_cells _) rfl rfl (al_cons rfl (al_cons rfl (al_cons rfl (al_cons qoc3.rd.sh.one (al_cons qoa3.rd.sh.one (al_cons qor3.rd.sh.one (al_cons qow3.rd.sh.one (al_cons rfl (al_cons rfl (al_cons rfl al_nil))))))))))) ?_
     rintro w11 ⟨hq3, hb11⟩
     dsimp only [put] at hb11
     refine ⟨trivial, ?_⟩
     refine LP rfl rfl rfl (xas rfl) ?_
     refine LZ ?_
     refine F_seq ?_
     refine W_seq ?_
     refine W_reg (.pure 0 (.pure 1 (.pure 2 (.one 3 (.pure 4 (.pure 5 (.pure 6 (.pure 7 (.pure 8 .nil))))))))) rfl ?_
     refine LP rfl rfl rfl (xmv rfl) ?_
     refine LP rfl rfl rfl (xbd rfl (bd50_2i_C9 (4 : Int))) ?_
     refine LP rfl rfl rfl (xbd rfl (bd52_0iiisii_1iiisii_2iiisii_C9 (3 : Int) (1 : Int) 0 _ _ _ (4 : Int) 0)) ?_
     have le7 : Le w9 w11 := (hq3.le hl7 (inc (Nat.le_refl _) hb10z inn))
     refine LF rfl rfl rfl has58_C9 rfl (c_answer (S := ([b4] ++ S)) (⟨_, _, _, _, _, (Le.bk le7 hb9), (RdX.more (Le.rdx le7 hz22) hz22.rd rfl (inc (Nat.le_refl _) hb10z inn)), (RdX.more (Le.rdx le7 hz23) hz23.rd rfl (inc (Nat.le_refl _) hb10z inn)), (RdX.more (Le.rdx le7 hz24) hz24.rd rfl (inc (Nat.le_refl _) hb10z inn)), (RdX.more (Le.rdx le7 hz25) hz25.rd rfl (inc (Nat.le_refl _) hb10z inn)), (RdX.more (Le.rdx le7 hz26) hz26.rd rfl (inc (Nat.le_refl _) hb10z inn))⟩ : Cl ([b4] ++ S) w11 116 b1 (tickC (liveC 11))) (tickC_ok (liveC_ok (k := 11) (by omega))) (List.mem_append_right _ hmc) (lt_app (lt_cons (Nat.lt_of_lt_of_le (bk_lt hb10) hq3.size) lt_nil) (lt_le hS (Nat.le_trans qlx5.size (Nat.le_trans hl7.size hq3.size)))) (a := ⟨(3 : Int), (1 : Int), ⟨0, [], (4 : Int), 0⟩⟩) (RdX.nil _ _ _) (by first | omega | (simp only [List.length_append, List.length_take, List.length_drop, List.length_cons, List.length_nil]; omega))) ?_
     rintro _ w12 (⟨qf5, rfl, qle2⟩ | ⟨qf6, rfl, qlx6, qcl6⟩)
     ·
      exact absurd qf5 (by decide)
     ·
      have hk16 := Lx.rdx2 qlx6 hz22.rd rfl (dr_in hmc dr_nil) (Le.rdx le7 hz22)
      have hk17 := Lx.rdx2 qlx6 hz23.rd rfl (dr_in hmc dr_nil) (Le.rdx le7 hz23)
      have hk18 := Lx.rdx2 qlx6 hz24.rd rfl (dr_in hmc dr_nil) (Le.rdx le7 hz24)
      have hk19 := Lx.rdx2 qlx6 hz25.rd rfl (dr_in hmc dr_nil) (Le.rdx le7 hz25)
      have hk20 := Lx.rdx2 qlx6 hz26.rd rfl (dr_in hmc dr_nil) (Le.rdx le7 hz26)
      have hk21 := Lx.rdx2 qlx6 qoc3.rd rfl (dr_in hmc dr_nil) (Le.rdx le7 qoc3)
      have hk22 := Lx.rdx2 qlx6 qoa3.rd rfl (dr_in hmc dr_nil) (Le.rdx le7 qoa3)
      have hk23 := Lx.rdx2 qlx6 qor3.rd rfl (dr_in hmc dr_nil) (Le.rdx le7 qor3)
      have hk24 := Lx.rdx2 qlx6 qow3.rd rfl (dr_in hmc dr_nil) (Le.rdx le7 qow3)
      have hk25 := qlx6.bk (ni_new hb10z (Nat.lt_of_lt_of_le (bk_lt hb5) qlx5.size) ni_nil) hb11
      obtain ⟨z26, z27, z28, z29, z30, hb12, hz27, hz28, hz29, hz30, hz31⟩ := qcl6
      refine ⟨trivial, ?_⟩
      refine LP rfl rfl rfl (xmv rfl) ?_
      refine LP rfl rfl rfl (xext rfl rfl) ?_
      refine LP rfl rfl rfl (xext rfl rfl) ?_
      refine LP rfl rfl rfl (xas rfl) ?_
      refine LP rfl rfl rfl (xas rfl) ?_
      refine LZ ?_
      refine F_seq ?_
      refine W_seq ?_
      refine W_reg (.pure 0 (.pure 1 (.pure 2 (.one 3 (.pure 4 (.pure 5 (.pure 6 (.pure 7 (.pure 8 (.pure 9 (.pure 10 (.pure 11 (.pure 12 (.pure 13 (.pure 14 (.one 15 (.pure 16 (.pure 17 (.pure 18 .nil))))))))))))))))))) rfl ?_
      refine LP rfl rfl rfl (xmv rfl) ?_
      refine LP rfl rfl rfl (xmv rfl) ?_
      refine LP rfl rfl rfl (xfa fa36_0 rfl) ?_
      refine LX rfl rfl rfl (xld sc3 rfl (cl_bk hk25 rfl)) trivial ?_
      refine LP rfl rfl rfl (xeql rfl rfl) ?_
      refine L_is 69 (v := .bool true) rfl (congrArg Value.bool (by decide)) ?_
      refine LP rfl rfl rfl (xpk1 rfl rfl) ?_
      refine LP rfl rfl rfl (xmv rfl) ?_
      refine LP rfl rfl rfl (xmv rfl) ?_
      refine LP rfl rfl rfl (xpk1 rfl rfl) ?_
      refine LP rfl rfl rfl (xmv rfl) ?_
      refine LP rfl rfl rfl (xmv rfl) ?_
      refine LP rfl rfl rfl (xeql rfl rfl) ?_
      refine L_is 76 (v := .bool true) rfl (congrArg Value.bool (by decide)) ?_
      refine LP rfl rfl rfl (xpk1 rfl rfl) ?_
      refine LP rfl rfl rfl (xmv rfl) ?_
      refine LP rfl rfl rfl (xmv rfl) ?_
      refine LF rfl rfl rfl has59_C9 rfl (c_token (S := ([b4] ++ S)) (⟨_, _, _, _, _, hb12, hz27, hz28, hz29, hz30, hz31⟩ : Cl ([b4] ++ S) w12 116 b1 (ansC (tickC (liveC 11)) ⟨(3 : Int), (1 : Int), ⟨0, [], (4 : Int), 0⟩⟩)) (ansC_ok (tickC_ok (liveC_ok (k := 11) (by omega))) (by first | omega | (simp only [List.length_append, List.length_take, List.length_drop, List.length_cons, List.length_nil]; omega))) (List.mem_append_right _ hmc) (lt_app (lt_cons (Nat.lt_of_lt_of_le (bk_lt hb10) (Nat.le_trans hq3.size qlx6.size)) lt_nil) (lt_le hS (Nat.le_trans qlx5.size (Nat.le_trans hl7.size (Nat.le_trans hq3.size qlx6.size))))) ) ?_
      rintro _ w13 ⟨rfl, qle3⟩
      refine ⟨trivial, ?_⟩
      refine LP rfl rfl rfl (xeql rfl rfl) ?_
      refine L_is 81 (v := .bool true) rfl (congrArg Value.bool (by decide)) ?_
      refine LP rfl rfl rfl (xpk1 rfl rfl) ?_
      refine LP rfl rfl rfl (xas rfl) ?_
      refine LZ ?_
      refine F_seq ?_
      refine W_ret ?_
      have le8 : Le w w9 := (qlx5.le hl5 (inc hl2.size hz1 inn))
      have le9 : Le w w11 := (hq3.le (le8.trans hl7) (inc (Nat.le_trans hl5.size qlx5.size) hb10z inn))
      have le10 : Le w w12 := (qlx6.le le9 (inc hl2.size hz1 inn))
      exact F_end1 rfl rfl ⟨_, rfl, rfl, (le10.trans qle3)⟩
end Go.Proofs.Ythmhbonhagjnnaa
