/- A session is what it must be. -/
import Derived.Test.YthmhbonhagjnnaaProg
import Derived.Test.YthmhbonhagjnnaaC6
import Derived.KernelRfl
namespace Go.Proofs.Ythmhbonhagjnnaa
open Go.RowKit
set_option linter.unusedVariables false
set_option linter.unusedSimpArgs false
theorem fa48_0 : FA Try.prog 48 0 0 := fun _ _ _ => by kernel_rfl
theorem sc27 : Sc Try.prog 27 := fun _ => by kernel_rfl
theorem has19 : Has Try.prog 19 Try.f19 := ⟨Try.func19, by kernel_rfl, rfl⟩
theorem fa48_1 : FA Try.prog 48 1 1 := fun _ _ _ => by kernel_rfl
theorem sc31 : Sc Try.prog 31 := fun _ => by kernel_rfl
theorem has20 : Has Try.prog 20 Try.f20 := ⟨Try.func20, by kernel_rfl, rfl⟩
theorem has77 : Has Try.prog 77 Try.f77 := ⟨Try.func77, by kernel_rfl, rfl⟩
theorem has59 : Has Try.prog 59 Try.f59 := ⟨Try.func59, by kernel_rfl, rfl⟩
theorem has78 : Has Try.prog 78 Try.f78 := ⟨Try.func78, by kernel_rfl, rfl⟩
theorem has79 : Has Try.prog 79 Try.f79 := ⟨Try.func79, by kernel_rfl, rfl⟩
theorem p_is {S : List Nat} {bp bc bw : Nat} {c : Cli} {w : World} (hP : PairI S w bp bc bw c) :
    Fn Try.prog 23 #[.pointer (some ⟨bp, 0, none⟩)] w fun v w' => v = .bool true ∧ Le w w' := by
 refine Fn.enter 93 [(0, _)] Try.func23 rfl rfl rfl rfl ?_
 obtain ⟨hpP, hc, hw, hmp, hmc, hmw, hok, hlz, hS⟩ := hP
 obtain ⟨z1, z2, z3, z4, z5, hb1, hz1, hz2, hz3, hz4, hz5⟩ := id hc
 obtain ⟨z6, z7, z8, z9, z10, hb2, hz6, hz7, hz8, hz9, hz10⟩ := id hw
 have n1 : bp ≠ bc := bk_ne hpP hb1 rfl
 have n2 : bp ≠ bw := bk_ne hpP hb2 rfl
 have n3 : bc ≠ bw := bk_ne hb1 hb2 rfl
 refine W_seq ?_
 refine W_reg (.pure 0 .nil) rfl ?_
 refine LP rfl rfl rfl (xas rfl) ?_
 refine LZ ?_
 refine F_seq ?_
 refine W_seq ?_
 refine W_reg (.pure 0 (.pure 1 (.pure 2 (.one 3 (.one 4 (.pure 5 (.pure 6 (.pure 7 (.one 8 (.one 9 (.pure 10 .nil))))))))))) rfl ?_
 refine LP rfl rfl rfl (xmv rfl) ?_
 refine LP rfl rfl rfl (xnc rfl) ?_
 refine LP rfl rfl rfl (xfa fa48_0 rfl) ?_
 refine LX rfl rfl rfl (xld sc27 rfl (cl_bk hpP rfl)) trivial ?_
 refine LF rfl rfl rfl has19 rfl (c_pending (S := S) (⟨_, _, _, _, _, hb1, hz1, hz2, hz3, hz4, hz5⟩ : Cl S w 116 bc c) hok hmc (lt_le hS (Nat.le_refl _)) ) ?_
 rintro _ w1 (⟨qf1, rfl, qle1⟩ | ⟨qf2, qxc1, qxa1, qxr1, qxw1, rfl, qle2, qoc1, qoa1, qor1, qow1⟩)
 ·
  refine ⟨trivial, ?_⟩
  refine LP rfl rfl rfl (xmv rfl) ?_
  refine LP rfl rfl rfl (xext rfl rfl) ?_
  refine LP rfl rfl rfl (xext rfl rfl) ?_
  refine LT rfl rfl rfl (xal zr26) ?_
  rintro _ w2 ⟨b1, rfl, hl1, hb3, hb3z⟩
  refine ⟨trivial, ?_⟩
  refine LU rfl rfl (xsb sz26 hb3 rfl rfl (agg_cells _) rfl rfl (al_cons rfl (al_cons rfl (al_cons rfl (al_cons rfl (al_cons rfl (al_cons rfl al_nil))))))) ?_
  rintro w3 ⟨hq1, hb4⟩
  dsimp only [put] at hb4
  refine ⟨trivial, ?_⟩
  refine LP rfl rfl rfl (xas rfl) ?_
  refine LZ ?_
  refine F_seq ?_
  refine W_seq ?_
  refine W_reg (.pure 0 (.pure 1 (.pure 2 (.one 3 (.one 4 (.pure 5 (.pure 6 (.pure 7 (.one 8 (.one 9 (.pure 10 .nil))))))))))) rfl ?_
  refine LP rfl rfl rfl (xmv rfl) ?_
  refine LP rfl rfl rfl (xnc rfl) ?_
  refine LP rfl rfl rfl (xfa fa48_1 rfl) ?_
  have le1 : Le w w3 := (hq1.le (qle1.trans hl1) (inc qle1.size hb3z inn))
  refine LX rfl rfl rfl (xld sc31 rfl (cl_bk (Le.bk le1 hpP) rfl)) trivial ?_
  refine LF rfl rfl rfl has20 rfl (r_pending (S := ([b1] ++ S)) (⟨_, _, _, _, _, (Le.bk le1 hb2), (RdX.more (Le.rdx le1 hz6) hz6.rd rfl (inc qle1.size hb3z inn)), (RdX.more (Le.rdx le1 hz7) hz7.rd rfl (inc qle1.size hb3z inn)), (RdX.more (Le.rdx le1 hz8) hz8.rd rfl (inc qle1.size hb3z inn)), (RdX.more (Le.rdx le1 hz9) hz9.rd rfl (inc qle1.size hb3z inn)), (RdX.more (Le.rdx le1 hz10) hz10.rd rfl (inc qle1.size hb3z inn))⟩ : Cl ([b1] ++ S) w3 118 bw c) hok (List.mem_append_right _ hmw) (lt_app (lt_cons (Nat.lt_of_lt_of_le (bk_lt hb3) hq1.size) lt_nil) (lt_le hS (Nat.le_trans qle1.size (Nat.le_trans hl1.size hq1.size)))) ) ?_
  rintro _ w4 (⟨qf3, rfl, qle3⟩ | ⟨qf4, qxc2, qxa2, qxr2, qxw2, rfl, qle4, qoc2, qoa2, qor2, qow2⟩)
  ·
   refine ⟨trivial, ?_⟩
   refine LP rfl rfl rfl (xmv rfl) ?_
   refine LP rfl rfl rfl (xext rfl rfl) ?_
   refine LP rfl rfl rfl (xext rfl rfl) ?_
   refine LT rfl rfl rfl (xal zr26) ?_
   rintro _ w5 ⟨b2, rfl, hl2, hb5, hb5z⟩
   refine ⟨trivial, ?_⟩
   refine LU rfl rfl (xsb sz26 hb5 rfl rfl (agg_cells _) rfl rfl (al_cons rfl (al_cons rfl (al_cons rfl (al_cons rfl (al_cons rfl (al_cons rfl al_nil))))))) ?_
   rintro w6 ⟨hq2, hb6⟩
   dsimp only [put] at hb6
   refine ⟨trivial, ?_⟩
   refine LP rfl rfl rfl (xas rfl) ?_
   refine LZ ?_
   refine F_seq ?_
   refine W_seq ?_
   refine W_reg (.pure 0 (.pure 1 (.pure 2 (.one 3 (.one 4 (.pure 5 (.pure 6 (.pure 7 (.one 8 (.one 9 (.pure 10 .nil))))))))))) rfl ?_
   refine LP rfl rfl rfl (xmv rfl) ?_
   refine LP rfl rfl rfl (xnc rfl) ?_
   refine LP rfl rfl rfl (xfa fa48_0 rfl) ?_
   have le2 : Le w w6 := (hq2.le (le1.trans (qle3.trans hl2)) (inc (Nat.le_trans qle1.size (Nat.le_trans hl1.size (Nat.le_trans hq1.size qle3.size))) hb5z inn))
   refine LX rfl rfl rfl (xld sc27 rfl (cl_bk (Le.bk le2 hpP) rfl)) trivial ?_
   refine LF rfl rfl rfl has77 rfl (c_last (S := ([b1, b2] ++ S)) (⟨_, _, _, _, _, (Le.bk le2 hb1), (RdX.more (Le.rdx le2 hz1) hz1.rd rfl (inc qle1.size hb3z (inc (Nat.le_trans qle1.size (Nat.le_trans hl1.size (Nat.le_trans hq1.size qle3.size))) hb5z inn))), (RdX.more (Le.rdx le2 hz2) hz2.rd rfl (inc qle1.size hb3z (inc (Nat.le_trans qle1.size (Nat.le_trans hl1.size (Nat.le_trans hq1.size qle3.size))) hb5z inn))), (RdX.more (Le.rdx le2 hz3) hz3.rd rfl (inc qle1.size hb3z (inc (Nat.le_trans qle1.size (Nat.le_trans hl1.size (Nat.le_trans hq1.size qle3.size))) hb5z inn))), (RdX.more (Le.rdx le2 hz4) hz4.rd rfl (inc qle1.size hb3z (inc (Nat.le_trans qle1.size (Nat.le_trans hl1.size (Nat.le_trans hq1.size qle3.size))) hb5z inn))), (RdX.more (Le.rdx le2 hz5) hz5.rd rfl (inc qle1.size hb3z (inc (Nat.le_trans qle1.size (Nat.le_trans hl1.size (Nat.le_trans hq1.size qle3.size))) hb5z inn)))⟩ : Cl ([b1, b2] ++ S) w6 116 bc c) hok (List.mem_append_right _ hmc) (lt_app (lt_cons (Nat.lt_of_lt_of_le (bk_lt hb3) (Nat.le_trans hq1.size (Nat.le_trans qle3.size (Nat.le_trans hl2.size hq2.size)))) (lt_cons (Nat.lt_of_lt_of_le (bk_lt hb5) hq2.size) lt_nil)) (lt_le hS (Nat.le_trans qle1.size (Nat.le_trans hl1.size (Nat.le_trans hq1.size (Nat.le_trans qle3.size (Nat.le_trans hl2.size hq2.size))))))) ) ?_
   rintro v3 w7 (⟨qf5, v3, qle5⟩ | ⟨qf6, qxl1, v3, qle6, qo1⟩)
   ·
    rw [← hlz qf5] at v3
    subst v3
    have hzl1 : RdE w7.heap IntE (.slice none 0 0) c.last.vals := by rw [hlz qf5]; exact RdE.nil _ _
    refine ⟨trivial, ?_⟩
    refine LP rfl rfl rfl (xmv rfl) ?_
    refine LP rfl rfl rfl (xext rfl rfl) ?_
    refine LP rfl rfl rfl (xext rfl rfl) ?_
    refine LT rfl rfl rfl (xal zr50) ?_
    rintro _ w8 ⟨b3, rfl, hl3, hb7, hb7z⟩
    refine ⟨trivial, ?_⟩
    refine LU rfl rfl (xsb sz50 hb7 rfl rfl (agg_cells _) rfl rfl (al_cons rfl (al_cons rfl (al_cons rfl (al_cons rfl al_nil))))) ?_
    rintro w9 ⟨hq3, hb8⟩
    dsimp only [put] at hb8
    refine ⟨trivial, ?_⟩
    refine LP rfl rfl rfl (xas rfl) ?_
    refine LZ ?_
    refine F_seq ?_
    refine W_seq ?_
    refine W_draw (.pure 0 (.pure 1 (.pure 2 (.pure 3 (.still 4 (.still 5 (.one 6 (.pure 7 (.pure 8 (.pure 9 (.pure 10 (.pure 11 (.still 12 (.pure 14 (.pure 15 (.pure 16 (.still 17 (.pure 18 (.pure 19 (.still 20 (.one 13 (.pure 21 (.pure 22 (.pure 23 (.pure 24 (.pure 25 (.pure 26 (.still 27 (.pure 29 (.pure 30 (.pure 31 (.still 32 (.pure 33 (.pure 34 (.still 35 (.one 28 (.pure 36 (.pure 37 (.pure 38 (.pure 39 (.pure 40 (.pure 41 (.pure 42 (.still 43 (.pure 44 (.pure 45 (.still 46 (.pure 47 (.pure 48 (.pure 49 (.still 50 (.pure 51 (.pure 52 (.pure 53 (.still 54 (.pure 55 (.pure 56 (.still 57 (.one 58 (.pure 59 (.pure 60 .nil))))))))))))))))))))))))))))))))))))))))))))))))))))))))))))) (Le w9) hfol (by kernel_rfl) (pkt pkB) (Le.drew _) ?_
    refine LP rfl rfl rfl (xmv rfl) ?_
    refine LP rfl rfl rfl (xmv rfl) ?_
    refine LP rfl rfl rfl (xbeq un4 rfl rfl) ?_
    refine L_is 35 (v := .bool true) rfl (by simp) ?_
    refine LP rfl rfl rfl (xmv rfl) ?_
    have le3 : Le w3 w6 := (hq2.le (qle3.trans hl2) (inc qle3.size hb5z inn))
    have le4 : Le w3 w9 := (hq3.le (le3.trans (qle5.trans hl3)) (inc (Nat.le_trans qle3.size (Nat.le_trans hl2.size (Nat.le_trans hq2.size qle5.size))) hb7z inn))
    refine LS rfl rfl rfl (fun w' hw' => (xlb6 ag26 (Le.bk (le4.trans hw') hb4) rfl rfl rfl rfl rfl rfl rfl)) ?_
    have le5 : Le w6 w9 := (hq3.le (qle5.trans hl3) (inc qle5.size hb7z inn))
    refine LS rfl rfl rfl (fun w' hw' => (xlb6 ag26 (Le.bk (le5.trans hw') hb6) rfl rfl rfl rfl rfl rfl rfl)) ?_
    refine LF rfl rfl rfl has21 rfl (txnSame (t := ⟨0, 0, [], [], [], []⟩) (RdE.nil _ _) (RdE.nil _ _) (RdE.nil _ _) (RdE.nil _ _) (RdE.nil _ _) (RdE.nil _ _) (RdE.nil _ _) (RdE.nil _ _)) ?_
    rintro _ w10 ⟨rfl, hl4⟩
    refine ⟨((Le.drew w9).trans hl4), ?_⟩
    refine LP rfl rfl rfl (xpk1 rfl rfl) ?_
    refine LP rfl rfl rfl (xmv rfl) ?_
    refine LP rfl rfl rfl (xmv rfl) ?_
    refine LP rfl rfl rfl (xnc rfl) ?_
    refine LP rfl rfl rfl (xfa fa48_0 rfl) ?_
    have le6 : Le w w9 := (hq3.le (le2.trans (qle5.trans hl3)) (inc (Nat.le_trans qle1.size (Nat.le_trans hl1.size (Nat.le_trans hq1.size (Nat.le_trans qle3.size (Nat.le_trans hl2.size (Nat.le_trans hq2.size qle5.size)))))) hb7z inn))
    refine LS rfl rfl rfl (fun w' hw' => (xld sc27 rfl (cl_bk (Le.bk (le6.trans hw') hpP) rfl))) ?_
    refine LP rfl rfl rfl (xmv rfl) ?_
    refine LP rfl rfl rfl (xnc rfl) ?_
    refine LP rfl rfl rfl (xfa fa48_1 rfl) ?_
    refine LS rfl rfl rfl (fun w' hw' => (xld sc31 rfl (cl_bk (Le.bk (le6.trans hw') hpP) rfl))) ?_
    refine LP rfl rfl rfl (xnc rfl) ?_
    refine LP rfl rfl rfl (xfa fa118_7 rfl) ?_
    refine LS rfl rfl rfl (fun w' hw' => (xld sc2 rfl (cl_bk (Le.bk (le6.trans hw') hb2) rfl))) ?_
    refine LF rfl rfl rfl has59 rfl (c_token (S := ([b1, b2, b3] ++ S)) (⟨_, _, _, _, _, (Le.bk (le6.trans ((Le.drew w9).trans hl4)) hb1), (RdX.more (Le.rdx (le6.trans ((Le.drew w9).trans hl4)) hz1) hz1.rd rfl (inc qle1.size hb3z (inc (Nat.le_trans qle1.size (Nat.le_trans hl1.size (Nat.le_trans hq1.size qle3.size))) hb5z (inc (Nat.le_trans qle1.size (Nat.le_trans hl1.size (Nat.le_trans hq1.size (Nat.le_trans qle3.size (Nat.le_trans hl2.size (Nat.le_trans hq2.size qle5.size)))))) hb7z inn)))), (RdX.more (Le.rdx (le6.trans ((Le.drew w9).trans hl4)) hz2) hz2.rd rfl (inc qle1.size hb3z (inc (Nat.le_trans qle1.size (Nat.le_trans hl1.size (Nat.le_trans hq1.size qle3.size))) hb5z (inc (Nat.le_trans qle1.size (Nat.le_trans hl1.size (Nat.le_trans hq1.size (Nat.le_trans qle3.size (Nat.le_trans hl2.size (Nat.le_trans hq2.size qle5.size)))))) hb7z inn)))), (RdX.more (Le.rdx (le6.trans ((Le.drew w9).trans hl4)) hz3) hz3.rd rfl (inc qle1.size hb3z (inc (Nat.le_trans qle1.size (Nat.le_trans hl1.size (Nat.le_trans hq1.size qle3.size))) hb5z (inc (Nat.le_trans qle1.size (Nat.le_trans hl1.size (Nat.le_trans hq1.size (Nat.le_trans qle3.size (Nat.le_trans hl2.size (Nat.le_trans hq2.size qle5.size)))))) hb7z inn)))), (RdX.more (Le.rdx (le6.trans ((Le.drew w9).trans hl4)) hz4) hz4.rd rfl (inc qle1.size hb3z (inc (Nat.le_trans qle1.size (Nat.le_trans hl1.size (Nat.le_trans hq1.size qle3.size))) hb5z (inc (Nat.le_trans qle1.size (Nat.le_trans hl1.size (Nat.le_trans hq1.size (Nat.le_trans qle3.size (Nat.le_trans hl2.size (Nat.le_trans hq2.size qle5.size)))))) hb7z inn)))), (RdX.more (Le.rdx (le6.trans ((Le.drew w9).trans hl4)) hz5) hz5.rd rfl (inc qle1.size hb3z (inc (Nat.le_trans qle1.size (Nat.le_trans hl1.size (Nat.le_trans hq1.size qle3.size))) hb5z (inc (Nat.le_trans qle1.size (Nat.le_trans hl1.size (Nat.le_trans hq1.size (Nat.le_trans qle3.size (Nat.le_trans hl2.size (Nat.le_trans hq2.size qle5.size)))))) hb7z inn))))⟩ : Cl ([b1, b2, b3] ++ S) w10 116 bc c) hok (List.mem_append_right _ hmc) (lt_app (lt_cons (Nat.lt_of_lt_of_le (bk_lt hb3) (Nat.le_trans hq1.size (Nat.le_trans qle3.size (Nat.le_trans hl2.size (Nat.le_trans hq2.size (Nat.le_trans qle5.size (Nat.le_trans hl3.size (Nat.le_trans hq3.size (Nat.le_trans (Le.drew w9).size hl4.size))))))))) (lt_cons (Nat.lt_of_lt_of_le (bk_lt hb5) (Nat.le_trans hq2.size (Nat.le_trans qle5.size (Nat.le_trans hl3.size (Nat.le_trans hq3.size (Nat.le_trans (Le.drew w9).size hl4.size)))))) (lt_cons (Nat.lt_of_lt_of_le (bk_lt hb7) (Nat.le_trans hq3.size (Nat.le_trans (Le.drew w9).size hl4.size))) lt_nil))) (lt_le hS (Nat.le_trans qle1.size (Nat.le_trans hl1.size (Nat.le_trans hq1.size (Nat.le_trans qle3.size (Nat.le_trans hl2.size (Nat.le_trans hq2.size (Nat.le_trans qle5.size (Nat.le_trans hl3.size (Nat.le_trans hq3.size (Nat.le_trans (Le.drew w9).size hl4.size)))))))))))) ) ?_
    rintro _ w11 ⟨rfl, qle7⟩
    refine ⟨((Le.drew w9).trans (hl4.trans qle7)), ?_⟩
    refine LP rfl rfl rfl (xeql rfl rfl) ?_
    refine L_is 54 (v := .bool true) rfl (by simp) ?_
    refine LP rfl rfl rfl (xpk1 rfl rfl) ?_
    refine LP rfl rfl rfl (xmv rfl) ?_
    refine LP rfl rfl rfl (xmv rfl) ?_
    refine LP rfl rfl rfl (xnc rfl) ?_
    refine LP rfl rfl rfl (xfa fa48_0 rfl) ?_
    refine LS rfl rfl rfl (fun w' hw' => (xld sc27 rfl (cl_bk (Le.bk (le6.trans hw') hpP) rfl))) ?_
    refine LP rfl rfl rfl (xmv rfl) ?_
    refine LP rfl rfl rfl (xnc rfl) ?_
    refine LP rfl rfl rfl (xfa fa48_1 rfl) ?_
    refine LS rfl rfl rfl (fun w' hw' => (xld sc31 rfl (cl_bk (Le.bk (le6.trans hw') hpP) rfl))) ?_
    refine LP rfl rfl rfl (xnc rfl) ?_
    refine LP rfl rfl rfl (xfa fa118_2 rfl) ?_
    refine LS rfl rfl rfl (fun w' hw' => (xld sc2 rfl (cl_bk (Le.bk (le6.trans hw') hb2) rfl))) ?_
    refine LF rfl rfl rfl has78 rfl (c_request (S := ([b1, b2, b3] ++ S)) (⟨_, _, _, _, _, (Le.bk (le6.trans ((Le.drew w9).trans (hl4.trans qle7))) hb1), (RdX.more (Le.rdx (le6.trans ((Le.drew w9).trans (hl4.trans qle7))) hz1) hz1.rd rfl (inc qle1.size hb3z (inc (Nat.le_trans qle1.size (Nat.le_trans hl1.size (Nat.le_trans hq1.size qle3.size))) hb5z (inc (Nat.le_trans qle1.size (Nat.le_trans hl1.size (Nat.le_trans hq1.size (Nat.le_trans qle3.size (Nat.le_trans hl2.size (Nat.le_trans hq2.size qle5.size)))))) hb7z inn)))), (RdX.more (Le.rdx (le6.trans ((Le.drew w9).trans (hl4.trans qle7))) hz2) hz2.rd rfl (inc qle1.size hb3z (inc (Nat.le_trans qle1.size (Nat.le_trans hl1.size (Nat.le_trans hq1.size qle3.size))) hb5z (inc (Nat.le_trans qle1.size (Nat.le_trans hl1.size (Nat.le_trans hq1.size (Nat.le_trans qle3.size (Nat.le_trans hl2.size (Nat.le_trans hq2.size qle5.size)))))) hb7z inn)))), (RdX.more (Le.rdx (le6.trans ((Le.drew w9).trans (hl4.trans qle7))) hz3) hz3.rd rfl (inc qle1.size hb3z (inc (Nat.le_trans qle1.size (Nat.le_trans hl1.size (Nat.le_trans hq1.size qle3.size))) hb5z (inc (Nat.le_trans qle1.size (Nat.le_trans hl1.size (Nat.le_trans hq1.size (Nat.le_trans qle3.size (Nat.le_trans hl2.size (Nat.le_trans hq2.size qle5.size)))))) hb7z inn)))), (RdX.more (Le.rdx (le6.trans ((Le.drew w9).trans (hl4.trans qle7))) hz4) hz4.rd rfl (inc qle1.size hb3z (inc (Nat.le_trans qle1.size (Nat.le_trans hl1.size (Nat.le_trans hq1.size qle3.size))) hb5z (inc (Nat.le_trans qle1.size (Nat.le_trans hl1.size (Nat.le_trans hq1.size (Nat.le_trans qle3.size (Nat.le_trans hl2.size (Nat.le_trans hq2.size qle5.size)))))) hb7z inn)))), (RdX.more (Le.rdx (le6.trans ((Le.drew w9).trans (hl4.trans qle7))) hz5) hz5.rd rfl (inc qle1.size hb3z (inc (Nat.le_trans qle1.size (Nat.le_trans hl1.size (Nat.le_trans hq1.size qle3.size))) hb5z (inc (Nat.le_trans qle1.size (Nat.le_trans hl1.size (Nat.le_trans hq1.size (Nat.le_trans qle3.size (Nat.le_trans hl2.size (Nat.le_trans hq2.size qle5.size)))))) hb7z inn))))⟩ : Cl ([b1, b2, b3] ++ S) w11 116 bc c) hok (List.mem_append_right _ hmc) (lt_app (lt_cons (Nat.lt_of_lt_of_le (bk_lt hb3) (Nat.le_trans hq1.size (Nat.le_trans qle3.size (Nat.le_trans hl2.size (Nat.le_trans hq2.size (Nat.le_trans qle5.size (Nat.le_trans hl3.size (Nat.le_trans hq3.size (Nat.le_trans (Le.drew w9).size (Nat.le_trans hl4.size qle7.size)))))))))) (lt_cons (Nat.lt_of_lt_of_le (bk_lt hb5) (Nat.le_trans hq2.size (Nat.le_trans qle5.size (Nat.le_trans hl3.size (Nat.le_trans hq3.size (Nat.le_trans (Le.drew w9).size (Nat.le_trans hl4.size qle7.size))))))) (lt_cons (Nat.lt_of_lt_of_le (bk_lt hb7) (Nat.le_trans hq3.size (Nat.le_trans (Le.drew w9).size (Nat.le_trans hl4.size qle7.size)))) lt_nil))) (lt_le hS (Nat.le_trans qle1.size (Nat.le_trans hl1.size (Nat.le_trans hq1.size (Nat.le_trans qle3.size (Nat.le_trans hl2.size (Nat.le_trans hq2.size (Nat.le_trans qle5.size (Nat.le_trans hl3.size (Nat.le_trans hq3.size (Nat.le_trans (Le.drew w9).size (Nat.le_trans hl4.size qle7.size))))))))))))) ) ?_
    rintro _ w12 ⟨rfl, qle8⟩
    refine ⟨((Le.drew w9).trans (hl4.trans (qle7.trans qle8))), ?_⟩
    refine LP rfl rfl rfl (xeql rfl rfl) ?_
    refine L_is 69 (v := .bool true) rfl (by simp) ?_
    refine LP rfl rfl rfl (xpk1 rfl rfl) ?_
    refine LP rfl rfl rfl (xmv rfl) ?_
    refine LP rfl rfl rfl (xmv rfl) ?_
    refine LP rfl rfl rfl (xmv rfl) ?_
    refine LP rfl rfl rfl (xnc rfl) ?_
    refine LP rfl rfl rfl (xfa fa48_1 rfl) ?_
    refine LS rfl rfl rfl (fun w' hw' => (xld sc31 rfl (cl_bk (Le.bk (le6.trans hw') hpP) rfl))) ?_
    refine LP rfl rfl rfl (xnc rfl) ?_
    refine LP rfl rfl rfl (xfa fa118_8 rfl) ?_
    refine LS rfl rfl rfl (fun w' hw' => (xld sc4 rfl (cl_bk (Le.bk (le6.trans hw') hb2) rfl))) ?_
    refine L_is 79 (v := .bool false) rfl (congrArg Value.bool qf5) ?_
    refine LP rfl rfl rfl (xbeq un4 rfl rfl) ?_
    refine L_is 80 (v := .bool true) rfl (by simp) ?_
    refine LP rfl rfl rfl (xpk1 rfl rfl) ?_
    refine LP rfl rfl rfl (xmv rfl) ?_
    refine LS rfl rfl rfl (fun w' hw' => (xlb4 ag50 (Le.bk hw' hb8) rfl rfl rfl rfl rfl)) ?_
    refine LP rfl rfl rfl (xmv rfl) ?_
    refine LP rfl rfl rfl (xnc rfl) ?_
    refine LP rfl rfl rfl (xfa fa48_1 rfl) ?_
    refine LS rfl rfl rfl (fun w' hw' => (xld sc31 rfl (cl_bk (Le.bk (le6.trans hw') hpP) rfl))) ?_
    refine LP rfl rfl rfl (xnc rfl) ?_
    refine LP rfl rfl rfl (xfa fa118_9 rfl) ?_
    refine LS rfl rfl rfl (fun w' hw' => (xlb4 ag50 (Le.bk (le6.trans hw') hb2) rfl rfl rfl rfl rfl)) ?_
    have le7 : Le w7 w9 := (hq3.le hl3 (inc (Nat.le_refl _) hb7z inn))
    refine LF rfl rfl rfl has79 rfl (resSame (r := ⟨c.last.e, c.last.vals, c.last.slot, c.last.place⟩) (RdE.le (le7.trans ((Le.drew w9).trans (hl4.trans (qle7.trans qle8)))) hzl1) (RdE.le (le6.trans ((Le.drew w9).trans (hl4.trans (qle7.trans qle8)))) hz10.rd)) ?_
    rintro _ w13 ⟨rfl, hl5⟩
    refine ⟨((Le.drew w9).trans (hl4.trans (qle7.trans (qle8.trans hl5)))), ?_⟩
    refine LP rfl rfl rfl (xpk1 rfl rfl) ?_
    refine LP rfl rfl rfl (xas rfl) ?_
    refine LZ ?_
    refine F_seq ?_
    refine W_ret ?_
    exact F_end1 rfl rfl ⟨_, rfl, rfl, (le6.trans ((Le.drew w9).trans (hl4.trans (qle7.trans (qle8.trans hl5)))))⟩
   ·
    subst v3
    refine ⟨trivial, ?_⟩
    refine LP rfl rfl rfl (xmv rfl) ?_
    refine LP rfl rfl rfl (xext rfl rfl) ?_
    refine LP rfl rfl rfl (xext rfl rfl) ?_
    refine LT rfl rfl rfl (xal zr50) ?_
    rintro _ w14 ⟨b4, rfl, hl6, hb9, hb9z⟩
    refine ⟨trivial, ?_⟩
    refine LU rfl rfl (xsb sz50 hb9 rfl rfl (agg_cells _) rfl rfl (al_cons rfl (al_cons qo1.rd.sh.one (al_cons rfl (al_cons rfl al_nil))))) ?_
    rintro w15 ⟨hq4, hb10⟩
    dsimp only [put] at hb10
    refine ⟨trivial, ?_⟩
    refine LP rfl rfl rfl (xas rfl) ?_
    refine LZ ?_
    refine F_seq ?_
    refine W_seq ?_
    refine W_draw (.pure 0 (.pure 1 (.pure 2 (.pure 3 (.still 4 (.still 5 (.one 6 (.pure 7 (.pure 8 (.pure 9 (.pure 10 (.pure 11 (.still 12 (.pure 14 (.pure 15 (.pure 16 (.still 17 (.pure 18 (.pure 19 (.still 20 (.one 13 (.pure 21 (.pure 22 (.pure 23 (.pure 24 (.pure 25 (.pure 26 (.still 27 (.pure 29 (.pure 30 (.pure 31 (.still 32 (.pure 33 (.pure 34 (.still 35 (.one 28 (.pure 36 (.pure 37 (.pure 38 (.pure 39 (.pure 40 (.pure 41 (.pure 42 (.still 43 (.pure 44 (.pure 45 (.still 46 (.pure 47 (.pure 48 (.pure 49 (.still 50 (.pure 51 (.pure 52 (.pure 53 (.still 54 (.pure 55 (.pure 56 (.still 57 (.one 58 (.pure 59 (.pure 60 .nil))))))))))))))))))))))))))))))))))))))))))))))))))))))))))))) (Le w15) hfol (by kernel_rfl) (pkt pkB) (Le.drew _) ?_
    refine LP rfl rfl rfl (xmv rfl) ?_
    refine LP rfl rfl rfl (xmv rfl) ?_
    refine LP rfl rfl rfl (xbeq un4 rfl rfl) ?_
    refine L_is 35 (v := .bool true) rfl (by simp) ?_
    refine LP rfl rfl rfl (xmv rfl) ?_
    have le8 : Le w3 w6 := (hq2.le (qle3.trans hl2) (inc qle3.size hb5z inn))
    have le9 : Le w3 w15 := (hq4.le (le8.trans (qle6.trans hl6)) (inc (Nat.le_trans qle3.size (Nat.le_trans hl2.size (Nat.le_trans hq2.size qle6.size))) hb9z inn))
    refine LS rfl rfl rfl (fun w' hw' => (xlb6 ag26 (Le.bk (le9.trans hw') hb4) rfl rfl rfl rfl rfl rfl rfl)) ?_
    have le10 : Le w6 w15 := (hq4.le (qle6.trans hl6) (inc qle6.size hb9z inn))
    refine LS rfl rfl rfl (fun w' hw' => (xlb6 ag26 (Le.bk (le10.trans hw') hb6) rfl rfl rfl rfl rfl rfl rfl)) ?_
    refine LF rfl rfl rfl has21 rfl (txnSame (t := ⟨0, 0, [], [], [], []⟩) (RdE.nil _ _) (RdE.nil _ _) (RdE.nil _ _) (RdE.nil _ _) (RdE.nil _ _) (RdE.nil _ _) (RdE.nil _ _) (RdE.nil _ _)) ?_
    rintro _ w16 ⟨rfl, hl7⟩
    refine ⟨((Le.drew w15).trans hl7), ?_⟩
    refine LP rfl rfl rfl (xpk1 rfl rfl) ?_
    refine LP rfl rfl rfl (xmv rfl) ?_
    refine LP rfl rfl rfl (xmv rfl) ?_
    refine LP rfl rfl rfl (xnc rfl) ?_
    refine LP rfl rfl rfl (xfa fa48_0 rfl) ?_
    have le11 : Le w w15 := (hq4.le (le2.trans (qle6.trans hl6)) (inc (Nat.le_trans qle1.size (Nat.le_trans hl1.size (Nat.le_trans hq1.size (Nat.le_trans qle3.size (Nat.le_trans hl2.size (Nat.le_trans hq2.size qle6.size)))))) hb9z inn))
    refine LS rfl rfl rfl (fun w' hw' => (xld sc27 rfl (cl_bk (Le.bk (le11.trans hw') hpP) rfl))) ?_
    refine LP rfl rfl rfl (xmv rfl) ?_
    refine LP rfl rfl rfl (xnc rfl) ?_
    refine LP rfl rfl rfl (xfa fa48_1 rfl) ?_
    refine LS rfl rfl rfl (fun w' hw' => (xld sc31 rfl (cl_bk (Le.bk (le11.trans hw') hpP) rfl))) ?_
    refine LP rfl rfl rfl (xnc rfl) ?_
    refine LP rfl rfl rfl (xfa fa118_7 rfl) ?_
    refine LS rfl rfl rfl (fun w' hw' => (xld sc2 rfl (cl_bk (Le.bk (le11.trans hw') hb2) rfl))) ?_
    refine LF rfl rfl rfl has59 rfl (c_token (S := ([b1, b2, b4] ++ S)) (⟨_, _, _, _, _, (Le.bk (le11.trans ((Le.drew w15).trans hl7)) hb1), (RdX.more (Le.rdx (le11.trans ((Le.drew w15).trans hl7)) hz1) hz1.rd rfl (inc qle1.size hb3z (inc (Nat.le_trans qle1.size (Nat.le_trans hl1.size (Nat.le_trans hq1.size qle3.size))) hb5z (inc (Nat.le_trans qle1.size (Nat.le_trans hl1.size (Nat.le_trans hq1.size (Nat.le_trans qle3.size (Nat.le_trans hl2.size (Nat.le_trans hq2.size qle6.size)))))) hb9z inn)))), (RdX.more (Le.rdx (le11.trans ((Le.drew w15).trans hl7)) hz2) hz2.rd rfl (inc qle1.size hb3z (inc (Nat.le_trans qle1.size (Nat.le_trans hl1.size (Nat.le_trans hq1.size qle3.size))) hb5z (inc (Nat.le_trans qle1.size (Nat.le_trans hl1.size (Nat.le_trans hq1.size (Nat.le_trans qle3.size (Nat.le_trans hl2.size (Nat.le_trans hq2.size qle6.size)))))) hb9z inn)))), (RdX.more (Le.rdx (le11.trans ((Le.drew w15).trans hl7)) hz3) hz3.rd rfl (inc qle1.size hb3z (inc (Nat.le_trans qle1.size (Nat.le_trans hl1.size (Nat.le_trans hq1.size qle3.size))) hb5z (inc (Nat.le_trans qle1.size (Nat.le_trans hl1.size (Nat.le_trans hq1.size (Nat.le_trans qle3.size (Nat.le_trans hl2.size (Nat.le_trans hq2.size qle6.size)))))) hb9z inn)))), (RdX.more (Le.rdx (le11.trans ((Le.drew w15).trans hl7)) hz4) hz4.rd rfl (inc qle1.size hb3z (inc (Nat.le_trans qle1.size (Nat.le_trans hl1.size (Nat.le_trans hq1.size qle3.size))) hb5z (inc (Nat.le_trans qle1.size (Nat.le_trans hl1.size (Nat.le_trans hq1.size (Nat.le_trans qle3.size (Nat.le_trans hl2.size (Nat.le_trans hq2.size qle6.size)))))) hb9z inn)))), (RdX.more (Le.rdx (le11.trans ((Le.drew w15).trans hl7)) hz5) hz5.rd rfl (inc qle1.size hb3z (inc (Nat.le_trans qle1.size (Nat.le_trans hl1.size (Nat.le_trans hq1.size qle3.size))) hb5z (inc (Nat.le_trans qle1.size (Nat.le_trans hl1.size (Nat.le_trans hq1.size (Nat.le_trans qle3.size (Nat.le_trans hl2.size (Nat.le_trans hq2.size qle6.size)))))) hb9z inn))))⟩ : Cl ([b1, b2, b4] ++ S) w16 116 bc c) hok (List.mem_append_right _ hmc) (lt_app (lt_cons (Nat.lt_of_lt_of_le (bk_lt hb3) (Nat.le_trans hq1.size (Nat.le_trans qle3.size (Nat.le_trans hl2.size (Nat.le_trans hq2.size (Nat.le_trans qle6.size (Nat.le_trans hl6.size (Nat.le_trans hq4.size (Nat.le_trans (Le.drew w15).size hl7.size))))))))) (lt_cons (Nat.lt_of_lt_of_le (bk_lt hb5) (Nat.le_trans hq2.size (Nat.le_trans qle6.size (Nat.le_trans hl6.size (Nat.le_trans hq4.size (Nat.le_trans (Le.drew w15).size hl7.size)))))) (lt_cons (Nat.lt_of_lt_of_le (bk_lt hb9) (Nat.le_trans hq4.size (Nat.le_trans (Le.drew w15).size hl7.size))) lt_nil))) (lt_le hS (Nat.le_trans qle1.size (Nat.le_trans hl1.size (Nat.le_trans hq1.size (Nat.le_trans qle3.size (Nat.le_trans hl2.size (Nat.le_trans hq2.size (Nat.le_trans qle6.size (Nat.le_trans hl6.size (Nat.le_trans hq4.size (Nat.le_trans (Le.drew w15).size hl7.size)))))))))))) ) ?_
    rintro _ w17 ⟨rfl, qle9⟩
    refine ⟨((Le.drew w15).trans (hl7.trans qle9)), ?_⟩
    refine LP rfl rfl rfl (xeql rfl rfl) ?_
    refine L_is 54 (v := .bool true) rfl (by simp) ?_
    refine LP rfl rfl rfl (xpk1 rfl rfl) ?_
    refine LP rfl rfl rfl (xmv rfl) ?_
    refine LP rfl rfl rfl (xmv rfl) ?_
    refine LP rfl rfl rfl (xnc rfl) ?_
    refine LP rfl rfl rfl (xfa fa48_0 rfl) ?_
    refine LS rfl rfl rfl (fun w' hw' => (xld sc27 rfl (cl_bk (Le.bk (le11.trans hw') hpP) rfl))) ?_
    refine LP rfl rfl rfl (xmv rfl) ?_
    refine LP rfl rfl rfl (xnc rfl) ?_
    refine LP rfl rfl rfl (xfa fa48_1 rfl) ?_
    refine LS rfl rfl rfl (fun w' hw' => (xld sc31 rfl (cl_bk (Le.bk (le11.trans hw') hpP) rfl))) ?_
    refine LP rfl rfl rfl (xnc rfl) ?_
    refine LP rfl rfl rfl (xfa fa118_2 rfl) ?_
    refine LS rfl rfl rfl (fun w' hw' => (xld sc2 rfl (cl_bk (Le.bk (le11.trans hw') hb2) rfl))) ?_
    refine LF rfl rfl rfl has78 rfl (c_request (S := ([b1, b2, b4] ++ S)) (⟨_, _, _, _, _, (Le.bk (le11.trans ((Le.drew w15).trans (hl7.trans qle9))) hb1), (RdX.more (Le.rdx (le11.trans ((Le.drew w15).trans (hl7.trans qle9))) hz1) hz1.rd rfl (inc qle1.size hb3z (inc (Nat.le_trans qle1.size (Nat.le_trans hl1.size (Nat.le_trans hq1.size qle3.size))) hb5z (inc (Nat.le_trans qle1.size (Nat.le_trans hl1.size (Nat.le_trans hq1.size (Nat.le_trans qle3.size (Nat.le_trans hl2.size (Nat.le_trans hq2.size qle6.size)))))) hb9z inn)))), (RdX.more (Le.rdx (le11.trans ((Le.drew w15).trans (hl7.trans qle9))) hz2) hz2.rd rfl (inc qle1.size hb3z (inc (Nat.le_trans qle1.size (Nat.le_trans hl1.size (Nat.le_trans hq1.size qle3.size))) hb5z (inc (Nat.le_trans qle1.size (Nat.le_trans hl1.size (Nat.le_trans hq1.size (Nat.le_trans qle3.size (Nat.le_trans hl2.size (Nat.le_trans hq2.size qle6.size)))))) hb9z inn)))), (RdX.more (Le.rdx (le11.trans ((Le.drew w15).trans (hl7.trans qle9))) hz3) hz3.rd rfl (inc qle1.size hb3z (inc (Nat.le_trans qle1.size (Nat.le_trans hl1.size (Nat.le_trans hq1.size qle3.size))) hb5z (inc (Nat.le_trans qle1.size (Nat.le_trans hl1.size (Nat.le_trans hq1.size (Nat.le_trans qle3.size (Nat.le_trans hl2.size (Nat.le_trans hq2.size qle6.size)))))) hb9z inn)))), (RdX.more (Le.rdx (le11.trans ((Le.drew w15).trans (hl7.trans qle9))) hz4) hz4.rd rfl (inc qle1.size hb3z (inc (Nat.le_trans qle1.size (Nat.le_trans hl1.size (Nat.le_trans hq1.size qle3.size))) hb5z (inc (Nat.le_trans qle1.size (Nat.le_trans hl1.size (Nat.le_trans hq1.size (Nat.le_trans qle3.size (Nat.le_trans hl2.size (Nat.le_trans hq2.size qle6.size)))))) hb9z inn)))), (RdX.more (Le.rdx (le11.trans ((Le.drew w15).trans (hl7.trans qle9))) hz5) hz5.rd rfl (inc qle1.size hb3z (inc (Nat.le_trans qle1.size (Nat.le_trans hl1.size (Nat.le_trans hq1.size qle3.size))) hb5z (inc (Nat.le_trans qle1.size (Nat.le_trans hl1.size (Nat.le_trans hq1.size (Nat.le_trans qle3.size (Nat.le_trans hl2.size (Nat.le_trans hq2.size qle6.size)))))) hb9z inn))))⟩ : Cl ([b1, b2, b4] ++ S) w17 116 bc c) hok (List.mem_append_right _ hmc) (lt_app (lt_cons (Nat.lt_of_lt_of_le (bk_lt hb3) (Nat.le_trans hq1.size (Nat.le_trans qle3.size (Nat.le_trans hl2.size (Nat.le_trans hq2.size (Nat.le_trans qle6.size (Nat.le_trans hl6.size (Nat.le_trans hq4.size (Nat.le_trans (Le.drew w15).size (Nat.le_trans hl7.size qle9.size)))))))))) (lt_cons (Nat.lt_of_lt_of_le (bk_lt hb5) (Nat.le_trans hq2.size (Nat.le_trans qle6.size (Nat.le_trans hl6.size (Nat.le_trans hq4.size (Nat.le_trans (Le.drew w15).size (Nat.le_trans hl7.size qle9.size))))))) (lt_cons (Nat.lt_of_lt_of_le (bk_lt hb9) (Nat.le_trans hq4.size (Nat.le_trans (Le.drew w15).size (Nat.le_trans hl7.size qle9.size)))) lt_nil))) (lt_le hS (Nat.le_trans qle1.size (Nat.le_trans hl1.size (Nat.le_trans hq1.size (Nat.le_trans qle3.size (Nat.le_trans hl2.size (Nat.le_trans hq2.size (Nat.le_trans qle6.size (Nat.le_trans hl6.size (Nat.le_trans hq4.size (Nat.le_trans (Le.drew w15).size (Nat.le_trans hl7.size qle9.size))))))))))))) ) ?_
    rintro _ w18 ⟨rfl, qle10⟩
    refine ⟨((Le.drew w15).trans (hl7.trans (qle9.trans qle10))), ?_⟩
    refine LP rfl rfl rfl (xeql rfl rfl) ?_
    refine L_is 69 (v := .bool true) rfl (by simp) ?_
    refine LP rfl rfl rfl (xpk1 rfl rfl) ?_
    refine LP rfl rfl rfl (xmv rfl) ?_
    refine LP rfl rfl rfl (xmv rfl) ?_
    refine LP rfl rfl rfl (xmv rfl) ?_
    refine LP rfl rfl rfl (xnc rfl) ?_
    refine LP rfl rfl rfl (xfa fa48_1 rfl) ?_
    refine LS rfl rfl rfl (fun w' hw' => (xld sc31 rfl (cl_bk (Le.bk (le11.trans hw') hpP) rfl))) ?_
    refine LP rfl rfl rfl (xnc rfl) ?_
    refine LP rfl rfl rfl (xfa fa118_8 rfl) ?_
    refine LS rfl rfl rfl (fun w' hw' => (xld sc4 rfl (cl_bk (Le.bk (le11.trans hw') hb2) rfl))) ?_
    refine L_is 79 (v := .bool true) rfl (congrArg Value.bool qf6) ?_
    refine LP rfl rfl rfl (xbeq un4 rfl rfl) ?_
    refine L_is 80 (v := .bool true) rfl (by simp) ?_
    refine LP rfl rfl rfl (xpk1 rfl rfl) ?_
    refine LP rfl rfl rfl (xmv rfl) ?_
    refine LS rfl rfl rfl (fun w' hw' => (xlb4 ag50 (Le.bk hw' hb10) rfl rfl rfl rfl rfl)) ?_
    refine LP rfl rfl rfl (xmv rfl) ?_
    refine LP rfl rfl rfl (xnc rfl) ?_
    refine LP rfl rfl rfl (xfa fa48_1 rfl) ?_
    refine LS rfl rfl rfl (fun w' hw' => (xld sc31 rfl (cl_bk (Le.bk (le11.trans hw') hpP) rfl))) ?_
    refine LP rfl rfl rfl (xnc rfl) ?_
    refine LP rfl rfl rfl (xfa fa118_9 rfl) ?_
    refine LS rfl rfl rfl (fun w' hw' => (xlb4 ag50 (Le.bk (le11.trans hw') hb2) rfl rfl rfl rfl rfl)) ?_
    have le12 : Le w7 w15 := (hq4.le hl6 (inc (Nat.le_refl _) hb9z inn))
    refine LF rfl rfl rfl has79 rfl (resSame (r := ⟨c.last.e, c.last.vals, c.last.slot, c.last.place⟩) (RdE.le (le12.trans ((Le.drew w15).trans (hl7.trans (qle9.trans qle10)))) qo1.rd) (RdE.le (le11.trans ((Le.drew w15).trans (hl7.trans (qle9.trans qle10)))) hz10.rd)) ?_
    rintro _ w19 ⟨rfl, hl8⟩
    refine ⟨((Le.drew w15).trans (hl7.trans (qle9.trans (qle10.trans hl8)))), ?_⟩
    refine LP rfl rfl rfl (xpk1 rfl rfl) ?_
    refine LP rfl rfl rfl (xas rfl) ?_
    refine LZ ?_
    refine F_seq ?_
    refine W_ret ?_
    exact F_end1 rfl rfl ⟨_, rfl, rfl, (le11.trans ((Le.drew w15).trans (hl7.trans (qle9.trans (qle10.trans hl8)))))⟩
  ·
   exact absurd (qf1.symm.trans qf4) (by decide)
 ·
  refine ⟨trivial, ?_⟩
  refine LP rfl rfl rfl (xmv rfl) ?_
  refine LP rfl rfl rfl (xext rfl rfl) ?_
  refine LP rfl rfl rfl (xext rfl rfl) ?_
  refine LT rfl rfl rfl (xal zr26) ?_
  rintro _ w20 ⟨b5, rfl, hl9, hb11, hb11z⟩
  refine ⟨trivial, ?_⟩
  refine LU rfl rfl (xsb sz26 hb11 rfl rfl (agg_cells _) rfl rfl (al_cons rfl (al_cons rfl (al_cons qoc1.rd.sh.one (al_cons qoa1.rd.sh.one (al_cons qor1.rd.sh.one (al_cons qow1.rd.sh.one al_nil))))))) ?_
  rintro w21 ⟨hq5, hb12⟩
  dsimp only [put] at hb12
  refine ⟨trivial, ?_⟩
  refine LP rfl rfl rfl (xas rfl) ?_
  refine LZ ?_
  refine F_seq ?_
  refine W_seq ?_
  refine W_reg (.pure 0 (.pure 1 (.pure 2 (.one 3 (.one 4 (.pure 5 (.pure 6 (.pure 7 (.one 8 (.one 9 (.pure 10 .nil))))))))))) rfl ?_
  refine LP rfl rfl rfl (xmv rfl) ?_
  refine LP rfl rfl rfl (xnc rfl) ?_
  refine LP rfl rfl rfl (xfa fa48_1 rfl) ?_
  have le13 : Le w w21 := (hq5.le (qle2.trans hl9) (inc qle2.size hb11z inn))
  refine LX rfl rfl rfl (xld sc31 rfl (cl_bk (Le.bk le13 hpP) rfl)) trivial ?_
  refine LF rfl rfl rfl has20 rfl (r_pending (S := ([b5] ++ S)) (⟨_, _, _, _, _, (Le.bk le13 hb2), (RdX.more (Le.rdx le13 hz6) hz6.rd rfl (inc qle2.size hb11z inn)), (RdX.more (Le.rdx le13 hz7) hz7.rd rfl (inc qle2.size hb11z inn)), (RdX.more (Le.rdx le13 hz8) hz8.rd rfl (inc qle2.size hb11z inn)), (RdX.more (Le.rdx le13 hz9) hz9.rd rfl (inc qle2.size hb11z inn)), (RdX.more (Le.rdx le13 hz10) hz10.rd rfl (inc qle2.size hb11z inn))⟩ : Cl ([b5] ++ S) w21 118 bw c) hok (List.mem_append_right _ hmw) (lt_app (lt_cons (Nat.lt_of_lt_of_le (bk_lt hb11) hq5.size) lt_nil) (lt_le hS (Nat.le_trans qle2.size (Nat.le_trans hl9.size hq5.size)))) ) ?_
  rintro _ w22 (⟨qf7, rfl, qle11⟩ | ⟨qf8, qxc3, qxa3, qxr3, qxw3, rfl, qle12, qoc3, qoa3, qor3, qow3⟩)
  ·
   exact absurd (qf7.symm.trans qf2) (by decide)
  ·
   refine ⟨trivial, ?_⟩
   refine LP rfl rfl rfl (xmv rfl) ?_
   refine LP rfl rfl rfl (xext rfl rfl) ?_
   refine LP rfl rfl rfl (xext rfl rfl) ?_
   refine LT rfl rfl rfl (xal zr26) ?_
   rintro _ w23 ⟨b6, rfl, hl10, hb13, hb13z⟩
   refine ⟨trivial, ?_⟩
   refine LU rfl rfl (xsb sz26 hb13 rfl rfl (agg_cells _) rfl rfl (al_cons rfl (al_cons rfl (al_cons qoc3.rd.sh.one (al_cons qoa3.rd.sh.one (al_cons qor3.rd.sh.one (al_cons qow3.rd.sh.one al_nil))))))) ?_
   rintro w24 ⟨hq6, hb14⟩
   dsimp only [put] at hb14
   refine ⟨trivial, ?_⟩
   refine LP rfl rfl rfl (xas rfl) ?_
   refine LZ ?_
   refine F_seq ?_
   refine W_seq ?_
   refine W_reg (.pure 0 (.pure 1 (.pure 2 (.one 3 (.one 4 (.pure 5 (.pure 6 (.pure 7 (.one 8 (.one 9 (.pure 10 .nil))))))))))) rfl ?_
   refine LP rfl rfl rfl (xmv rfl) ?_
   refine LP rfl rfl rfl (xnc rfl) ?_
   refine LP rfl rfl rfl (xfa fa48_0 rfl) ?_
   have le14 : Le w w24 := (hq6.le (le13.trans (qle12.trans hl10)) (inc (Nat.le_trans qle2.size (Nat.le_trans hl9.size (Nat.le_trans hq5.size qle12.size))) hb13z inn))
   refine LX rfl rfl rfl (xld sc27 rfl (cl_bk (Le.bk le14 hpP) rfl)) trivial ?_
   refine LF rfl rfl rfl has77 rfl (c_last (S := ([b5, b6] ++ S)) (⟨_, _, _, _, _, (Le.bk le14 hb1), (RdX.more (Le.rdx le14 hz1) hz1.rd rfl (inc qle2.size hb11z (inc (Nat.le_trans qle2.size (Nat.le_trans hl9.size (Nat.le_trans hq5.size qle12.size))) hb13z inn))), (RdX.more (Le.rdx le14 hz2) hz2.rd rfl (inc qle2.size hb11z (inc (Nat.le_trans qle2.size (Nat.le_trans hl9.size (Nat.le_trans hq5.size qle12.size))) hb13z inn))), (RdX.more (Le.rdx le14 hz3) hz3.rd rfl (inc qle2.size hb11z (inc (Nat.le_trans qle2.size (Nat.le_trans hl9.size (Nat.le_trans hq5.size qle12.size))) hb13z inn))), (RdX.more (Le.rdx le14 hz4) hz4.rd rfl (inc qle2.size hb11z (inc (Nat.le_trans qle2.size (Nat.le_trans hl9.size (Nat.le_trans hq5.size qle12.size))) hb13z inn))), (RdX.more (Le.rdx le14 hz5) hz5.rd rfl (inc qle2.size hb11z (inc (Nat.le_trans qle2.size (Nat.le_trans hl9.size (Nat.le_trans hq5.size qle12.size))) hb13z inn)))⟩ : Cl ([b5, b6] ++ S) w24 116 bc c) hok (List.mem_append_right _ hmc) (lt_app (lt_cons (Nat.lt_of_lt_of_le (bk_lt hb11) (Nat.le_trans hq5.size (Nat.le_trans qle12.size (Nat.le_trans hl10.size hq6.size)))) (lt_cons (Nat.lt_of_lt_of_le (bk_lt hb13) hq6.size) lt_nil)) (lt_le hS (Nat.le_trans qle2.size (Nat.le_trans hl9.size (Nat.le_trans hq5.size (Nat.le_trans qle12.size (Nat.le_trans hl10.size hq6.size))))))) ) ?_
   rintro v13 w25 (⟨qf9, v13, qle13⟩ | ⟨qf10, qxl2, v13, qle14, qo2⟩)
   ·
    rw [← hlz qf9] at v13
    subst v13
    have hzl2 : RdE w25.heap IntE (.slice none 0 0) c.last.vals := by rw [hlz qf9]; exact RdE.nil _ _
    refine ⟨trivial, ?_⟩
    refine LP rfl rfl rfl (xmv rfl) ?_
    refine LP rfl rfl rfl (xext rfl rfl) ?_
    refine LP rfl rfl rfl (xext rfl rfl) ?_
    refine LT rfl rfl rfl (xal zr50) ?_
    rintro _ w26 ⟨b7, rfl, hl11, hb15, hb15z⟩
    refine ⟨trivial, ?_⟩
    refine LU rfl rfl (xsb sz50 hb15 rfl rfl (agg_cells _) rfl rfl (al_cons rfl (al_cons rfl (al_cons rfl (al_cons rfl al_nil))))) ?_
    rintro w27 ⟨hq7, hb16⟩
    dsimp only [put] at hb16
    refine ⟨trivial, ?_⟩
    refine LP rfl rfl rfl (xas rfl) ?_
    refine LZ ?_
    refine F_seq ?_
    refine W_seq ?_
    refine W_draw (.pure 0 (.pure 1 (.pure 2 (.pure 3 (.still 4 (.still 5 (.one 6 (.pure 7 (.pure 8 (.pure 9 (.pure 10 (.pure 11 (.still 12 (.pure 14 (.pure 15 (.pure 16 (.still 17 (.pure 18 (.pure 19 (.still 20 (.one 13 (.pure 21 (.pure 22 (.pure 23 (.pure 24 (.pure 25 (.pure 26 (.still 27 (.pure 29 (.pure 30 (.pure 31 (.still 32 (.pure 33 (.pure 34 (.still 35 (.one 28 (.pure 36 (.pure 37 (.pure 38 (.pure 39 (.pure 40 (.pure 41 (.pure 42 (.still 43 (.pure 44 (.pure 45 (.still 46 (.pure 47 (.pure 48 (.pure 49 (.still 50 (.pure 51 (.pure 52 (.pure 53 (.still 54 (.pure 55 (.pure 56 (.still 57 (.one 58 (.pure 59 (.pure 60 .nil))))))))))))))))))))))))))))))))))))))))))))))))))))))))))))) (Le w27) hfol (by kernel_rfl) (pkt pkB) (Le.drew _) ?_
    refine LP rfl rfl rfl (xmv rfl) ?_
    refine LP rfl rfl rfl (xmv rfl) ?_
    refine LP rfl rfl rfl (xbeq un4 rfl rfl) ?_
    refine L_is 35 (v := .bool true) rfl (by simp) ?_
    refine LP rfl rfl rfl (xmv rfl) ?_
    have le15 : Le w21 w24 := (hq6.le (qle12.trans hl10) (inc qle12.size hb13z inn))
    have le16 : Le w21 w27 := (hq7.le (le15.trans (qle13.trans hl11)) (inc (Nat.le_trans qle12.size (Nat.le_trans hl10.size (Nat.le_trans hq6.size qle13.size))) hb15z inn))
    refine LS rfl rfl rfl (fun w' hw' => (xlb6 ag26 (Le.bk (le16.trans hw') hb12) rfl rfl rfl rfl rfl rfl rfl)) ?_
    have le17 : Le w24 w27 := (hq7.le (qle13.trans hl11) (inc qle13.size hb15z inn))
    refine LS rfl rfl rfl (fun w' hw' => (xlb6 ag26 (Le.bk (le17.trans hw') hb14) rfl rfl rfl rfl rfl rfl rfl)) ?_
    have le18 : Le w1 w21 := (hq5.le hl9 (inc (Nat.le_refl _) hb11z inn))
    have le19 : Le w1 w24 := (hq6.le (le18.trans (qle12.trans hl10)) (inc (Nat.le_trans hl9.size (Nat.le_trans hq5.size qle12.size)) hb13z inn))
    have le20 : Le w1 w27 := (hq7.le (le19.trans (qle13.trans hl11)) (inc (Nat.le_trans hl9.size (Nat.le_trans hq5.size (Nat.le_trans qle12.size (Nat.le_trans hl10.size (Nat.le_trans hq6.size qle13.size))))) hb15z inn))
    have le21 : Le w22 w24 := (hq6.le hl10 (inc (Nat.le_refl _) hb13z inn))
    have le22 : Le w22 w27 := (hq7.le (le21.trans (qle13.trans hl11)) (inc (Nat.le_trans hl10.size (Nat.le_trans hq6.size qle13.size)) hb15z inn))
    refine LF rfl rfl rfl has21 rfl (txnSame (t := ⟨c.t.se, c.t.rq, c.t.code, c.t.args, c.t.reads, c.t.writes⟩) (RdE.le (le20.trans (Le.drew w27)) qoc1.rd) (RdE.le (le20.trans (Le.drew w27)) qoa1.rd) (RdE.le (le20.trans (Le.drew w27)) qor1.rd) (RdE.le (le20.trans (Le.drew w27)) qow1.rd) (RdE.le (le22.trans (Le.drew w27)) qoc3.rd) (RdE.le (le22.trans (Le.drew w27)) qoa3.rd) (RdE.le (le22.trans (Le.drew w27)) qor3.rd) (RdE.le (le22.trans (Le.drew w27)) qow3.rd)) ?_
    rintro _ w28 ⟨rfl, hl12⟩
    refine ⟨((Le.drew w27).trans hl12), ?_⟩
    refine LP rfl rfl rfl (xpk1 rfl rfl) ?_
    refine LP rfl rfl rfl (xmv rfl) ?_
    refine LP rfl rfl rfl (xmv rfl) ?_
    refine LP rfl rfl rfl (xnc rfl) ?_
    refine LP rfl rfl rfl (xfa fa48_0 rfl) ?_
    have le23 : Le w w27 := (hq7.le (le14.trans (qle13.trans hl11)) (inc (Nat.le_trans qle2.size (Nat.le_trans hl9.size (Nat.le_trans hq5.size (Nat.le_trans qle12.size (Nat.le_trans hl10.size (Nat.le_trans hq6.size qle13.size)))))) hb15z inn))
    refine LS rfl rfl rfl (fun w' hw' => (xld sc27 rfl (cl_bk (Le.bk (le23.trans hw') hpP) rfl))) ?_
    refine LP rfl rfl rfl (xmv rfl) ?_
    refine LP rfl rfl rfl (xnc rfl) ?_
    refine LP rfl rfl rfl (xfa fa48_1 rfl) ?_
    refine LS rfl rfl rfl (fun w' hw' => (xld sc31 rfl (cl_bk (Le.bk (le23.trans hw') hpP) rfl))) ?_
    refine LP rfl rfl rfl (xnc rfl) ?_
    refine LP rfl rfl rfl (xfa fa118_7 rfl) ?_
    refine LS rfl rfl rfl (fun w' hw' => (xld sc2 rfl (cl_bk (Le.bk (le23.trans hw') hb2) rfl))) ?_
    refine LF rfl rfl rfl has59 rfl (c_token (S := ([b5, b6, b7] ++ S)) (⟨_, _, _, _, _, (Le.bk (le23.trans ((Le.drew w27).trans hl12)) hb1), (RdX.more (Le.rdx (le23.trans ((Le.drew w27).trans hl12)) hz1) hz1.rd rfl (inc qle2.size hb11z (inc (Nat.le_trans qle2.size (Nat.le_trans hl9.size (Nat.le_trans hq5.size qle12.size))) hb13z (inc (Nat.le_trans qle2.size (Nat.le_trans hl9.size (Nat.le_trans hq5.size (Nat.le_trans qle12.size (Nat.le_trans hl10.size (Nat.le_trans hq6.size qle13.size)))))) hb15z inn)))), (RdX.more (Le.rdx (le23.trans ((Le.drew w27).trans hl12)) hz2) hz2.rd rfl (inc qle2.size hb11z (inc (Nat.le_trans qle2.size (Nat.le_trans hl9.size (Nat.le_trans hq5.size qle12.size))) hb13z (inc (Nat.le_trans qle2.size (Nat.le_trans hl9.size (Nat.le_trans hq5.size (Nat.le_trans qle12.size (Nat.le_trans hl10.size (Nat.le_trans hq6.size qle13.size)))))) hb15z inn)))), (RdX.more (Le.rdx (le23.trans ((Le.drew w27).trans hl12)) hz3) hz3.rd rfl (inc qle2.size hb11z (inc (Nat.le_trans qle2.size (Nat.le_trans hl9.size (Nat.le_trans hq5.size qle12.size))) hb13z (inc (Nat.le_trans qle2.size (Nat.le_trans hl9.size (Nat.le_trans hq5.size (Nat.le_trans qle12.size (Nat.le_trans hl10.size (Nat.le_trans hq6.size qle13.size)))))) hb15z inn)))), (RdX.more (Le.rdx (le23.trans ((Le.drew w27).trans hl12)) hz4) hz4.rd rfl (inc qle2.size hb11z (inc (Nat.le_trans qle2.size (Nat.le_trans hl9.size (Nat.le_trans hq5.size qle12.size))) hb13z (inc (Nat.le_trans qle2.size (Nat.le_trans hl9.size (Nat.le_trans hq5.size (Nat.le_trans qle12.size (Nat.le_trans hl10.size (Nat.le_trans hq6.size qle13.size)))))) hb15z inn)))), (RdX.more (Le.rdx (le23.trans ((Le.drew w27).trans hl12)) hz5) hz5.rd rfl (inc qle2.size hb11z (inc (Nat.le_trans qle2.size (Nat.le_trans hl9.size (Nat.le_trans hq5.size qle12.size))) hb13z (inc (Nat.le_trans qle2.size (Nat.le_trans hl9.size (Nat.le_trans hq5.size (Nat.le_trans qle12.size (Nat.le_trans hl10.size (Nat.le_trans hq6.size qle13.size)))))) hb15z inn))))⟩ : Cl ([b5, b6, b7] ++ S) w28 116 bc c) hok (List.mem_append_right _ hmc) (lt_app (lt_cons (Nat.lt_of_lt_of_le (bk_lt hb11) (Nat.le_trans hq5.size (Nat.le_trans qle12.size (Nat.le_trans hl10.size (Nat.le_trans hq6.size (Nat.le_trans qle13.size (Nat.le_trans hl11.size (Nat.le_trans hq7.size (Nat.le_trans (Le.drew w27).size hl12.size))))))))) (lt_cons (Nat.lt_of_lt_of_le (bk_lt hb13) (Nat.le_trans hq6.size (Nat.le_trans qle13.size (Nat.le_trans hl11.size (Nat.le_trans hq7.size (Nat.le_trans (Le.drew w27).size hl12.size)))))) (lt_cons (Nat.lt_of_lt_of_le (bk_lt hb15) (Nat.le_trans hq7.size (Nat.le_trans (Le.drew w27).size hl12.size))) lt_nil))) (lt_le hS (Nat.le_trans qle2.size (Nat.le_trans hl9.size (Nat.le_trans hq5.size (Nat.le_trans qle12.size (Nat.le_trans hl10.size (Nat.le_trans hq6.size (Nat.le_trans qle13.size (Nat.le_trans hl11.size (Nat.le_trans hq7.size (Nat.le_trans (Le.drew w27).size hl12.size)))))))))))) ) ?_
    rintro _ w29 ⟨rfl, qle15⟩
    refine ⟨((Le.drew w27).trans (hl12.trans qle15)), ?_⟩
    refine LP rfl rfl rfl (xeql rfl rfl) ?_
    refine L_is 54 (v := .bool true) rfl (by simp) ?_
    refine LP rfl rfl rfl (xpk1 rfl rfl) ?_
    refine LP rfl rfl rfl (xmv rfl) ?_
    refine LP rfl rfl rfl (xmv rfl) ?_
    refine LP rfl rfl rfl (xnc rfl) ?_
    refine LP rfl rfl rfl (xfa fa48_0 rfl) ?_
    refine LS rfl rfl rfl (fun w' hw' => (xld sc27 rfl (cl_bk (Le.bk (le23.trans hw') hpP) rfl))) ?_
    refine LP rfl rfl rfl (xmv rfl) ?_
    refine LP rfl rfl rfl (xnc rfl) ?_
    refine LP rfl rfl rfl (xfa fa48_1 rfl) ?_
    refine LS rfl rfl rfl (fun w' hw' => (xld sc31 rfl (cl_bk (Le.bk (le23.trans hw') hpP) rfl))) ?_
    refine LP rfl rfl rfl (xnc rfl) ?_
    refine LP rfl rfl rfl (xfa fa118_2 rfl) ?_
    refine LS rfl rfl rfl (fun w' hw' => (xld sc2 rfl (cl_bk (Le.bk (le23.trans hw') hb2) rfl))) ?_
    refine LF rfl rfl rfl has78 rfl (c_request (S := ([b5, b6, b7] ++ S)) (⟨_, _, _, _, _, (Le.bk (le23.trans ((Le.drew w27).trans (hl12.trans qle15))) hb1), (RdX.more (Le.rdx (le23.trans ((Le.drew w27).trans (hl12.trans qle15))) hz1) hz1.rd rfl (inc qle2.size hb11z (inc (Nat.le_trans qle2.size (Nat.le_trans hl9.size (Nat.le_trans hq5.size qle12.size))) hb13z (inc (Nat.le_trans qle2.size (Nat.le_trans hl9.size (Nat.le_trans hq5.size (Nat.le_trans qle12.size (Nat.le_trans hl10.size (Nat.le_trans hq6.size qle13.size)))))) hb15z inn)))), (RdX.more (Le.rdx (le23.trans ((Le.drew w27).trans (hl12.trans qle15))) hz2) hz2.rd rfl (inc qle2.size hb11z (inc (Nat.le_trans qle2.size (Nat.le_trans hl9.size (Nat.le_trans hq5.size qle12.size))) hb13z (inc (Nat.le_trans qle2.size (Nat.le_trans hl9.size (Nat.le_trans hq5.size (Nat.le_trans qle12.size (Nat.le_trans hl10.size (Nat.le_trans hq6.size qle13.size)))))) hb15z inn)))), (RdX.more (Le.rdx (le23.trans ((Le.drew w27).trans (hl12.trans qle15))) hz3) hz3.rd rfl (inc qle2.size hb11z (inc (Nat.le_trans qle2.size (Nat.le_trans hl9.size (Nat.le_trans hq5.size qle12.size))) hb13z (inc (Nat.le_trans qle2.size (Nat.le_trans hl9.size (Nat.le_trans hq5.size (Nat.le_trans qle12.size (Nat.le_trans hl10.size (Nat.le_trans hq6.size qle13.size)))))) hb15z inn)))), (RdX.more (Le.rdx (le23.trans ((Le.drew w27).trans (hl12.trans qle15))) hz4) hz4.rd rfl (inc qle2.size hb11z (inc (Nat.le_trans qle2.size (Nat.le_trans hl9.size (Nat.le_trans hq5.size qle12.size))) hb13z (inc (Nat.le_trans qle2.size (Nat.le_trans hl9.size (Nat.le_trans hq5.size (Nat.le_trans qle12.size (Nat.le_trans hl10.size (Nat.le_trans hq6.size qle13.size)))))) hb15z inn)))), (RdX.more (Le.rdx (le23.trans ((Le.drew w27).trans (hl12.trans qle15))) hz5) hz5.rd rfl (inc qle2.size hb11z (inc (Nat.le_trans qle2.size (Nat.le_trans hl9.size (Nat.le_trans hq5.size qle12.size))) hb13z (inc (Nat.le_trans qle2.size (Nat.le_trans hl9.size (Nat.le_trans hq5.size (Nat.le_trans qle12.size (Nat.le_trans hl10.size (Nat.le_trans hq6.size qle13.size)))))) hb15z inn))))⟩ : Cl ([b5, b6, b7] ++ S) w29 116 bc c) hok (List.mem_append_right _ hmc) (lt_app (lt_cons (Nat.lt_of_lt_of_le (bk_lt hb11) (Nat.le_trans hq5.size (Nat.le_trans qle12.size (Nat.le_trans hl10.size (Nat.le_trans hq6.size (Nat.le_trans qle13.size (Nat.le_trans hl11.size (Nat.le_trans hq7.size (Nat.le_trans (Le.drew w27).size (Nat.le_trans hl12.size qle15.size)))))))))) (lt_cons (Nat.lt_of_lt_of_le (bk_lt hb13) (Nat.le_trans hq6.size (Nat.le_trans qle13.size (Nat.le_trans hl11.size (Nat.le_trans hq7.size (Nat.le_trans (Le.drew w27).size (Nat.le_trans hl12.size qle15.size))))))) (lt_cons (Nat.lt_of_lt_of_le (bk_lt hb15) (Nat.le_trans hq7.size (Nat.le_trans (Le.drew w27).size (Nat.le_trans hl12.size qle15.size)))) lt_nil))) (lt_le hS (Nat.le_trans qle2.size (Nat.le_trans hl9.size (Nat.le_trans hq5.size (Nat.le_trans qle12.size (Nat.le_trans hl10.size (Nat.le_trans hq6.size (Nat.le_trans qle13.size (Nat.le_trans hl11.size (Nat.le_trans hq7.size (Nat.le_trans (Le.drew w27).size (Nat.le_trans hl12.size qle15.size))))))))))))) ) ?_
    rintro _ w30 ⟨rfl, qle16⟩
    refine ⟨((Le.drew w27).trans (hl12.trans (qle15.trans qle16))), ?_⟩
    refine LP rfl rfl rfl (xeql rfl rfl) ?_
    refine L_is 69 (v := .bool true) rfl (by simp) ?_
    refine LP rfl rfl rfl (xpk1 rfl rfl) ?_
    refine LP rfl rfl rfl (xmv rfl) ?_
    refine LP rfl rfl rfl (xmv rfl) ?_
    refine LP rfl rfl rfl (xmv rfl) ?_
    refine LP rfl rfl rfl (xnc rfl) ?_
    refine LP rfl rfl rfl (xfa fa48_1 rfl) ?_
    refine LS rfl rfl rfl (fun w' hw' => (xld sc31 rfl (cl_bk (Le.bk (le23.trans hw') hpP) rfl))) ?_
    refine LP rfl rfl rfl (xnc rfl) ?_
    refine LP rfl rfl rfl (xfa fa118_8 rfl) ?_
    refine LS rfl rfl rfl (fun w' hw' => (xld sc4 rfl (cl_bk (Le.bk (le23.trans hw') hb2) rfl))) ?_
    refine L_is 79 (v := .bool false) rfl (congrArg Value.bool qf9) ?_
    refine LP rfl rfl rfl (xbeq un4 rfl rfl) ?_
    refine L_is 80 (v := .bool true) rfl (by simp) ?_
    refine LP rfl rfl rfl (xpk1 rfl rfl) ?_
    refine LP rfl rfl rfl (xmv rfl) ?_
    refine LS rfl rfl rfl (fun w' hw' => (xlb4 ag50 (Le.bk hw' hb16) rfl rfl rfl rfl rfl)) ?_
    refine LP rfl rfl rfl (xmv rfl) ?_
    refine LP rfl rfl rfl (xnc rfl) ?_
    refine LP rfl rfl rfl (xfa fa48_1 rfl) ?_
    refine LS rfl rfl rfl (fun w' hw' => (xld sc31 rfl (cl_bk (Le.bk (le23.trans hw') hpP) rfl))) ?_
    refine LP rfl rfl rfl (xnc rfl) ?_
    refine LP rfl rfl rfl (xfa fa118_9 rfl) ?_
    refine LS rfl rfl rfl (fun w' hw' => (xlb4 ag50 (Le.bk (le23.trans hw') hb2) rfl rfl rfl rfl rfl)) ?_
    have le24 : Le w25 w27 := (hq7.le hl11 (inc (Nat.le_refl _) hb15z inn))
    refine LF rfl rfl rfl has79 rfl (resSame (r := ⟨c.last.e, c.last.vals, c.last.slot, c.last.place⟩) (RdE.le (le24.trans ((Le.drew w27).trans (hl12.trans (qle15.trans qle16)))) hzl2) (RdE.le (le23.trans ((Le.drew w27).trans (hl12.trans (qle15.trans qle16)))) hz10.rd)) ?_
    rintro _ w31 ⟨rfl, hl13⟩
    refine ⟨((Le.drew w27).trans (hl12.trans (qle15.trans (qle16.trans hl13)))), ?_⟩
    refine LP rfl rfl rfl (xpk1 rfl rfl) ?_
    refine LP rfl rfl rfl (xas rfl) ?_
    refine LZ ?_
    refine F_seq ?_
    refine W_ret ?_
    exact F_end1 rfl rfl ⟨_, rfl, rfl, (le23.trans ((Le.drew w27).trans (hl12.trans (qle15.trans (qle16.trans hl13)))))⟩
   ·
    subst v13
    refine ⟨trivial, ?_⟩
    refine LP rfl rfl rfl (xmv rfl) ?_
    refine LP rfl rfl rfl (xext rfl rfl) ?_
    refine LP rfl rfl rfl (xext rfl rfl) ?_
    refine LT rfl rfl rfl (xal zr50) ?_
    rintro _ w32 ⟨b8, rfl, hl14, hb17, hb17z⟩
    refine ⟨trivial, ?_⟩
    refine LU rfl rfl (xsb sz50 hb17 rfl rfl (agg_cells _) rfl rfl (al_cons rfl (al_cons qo2.rd.sh.one (al_cons rfl (al_cons rfl al_nil))))) ?_
    rintro w33 ⟨hq8, hb18⟩
    dsimp only [put] at hb18
    refine ⟨trivial, ?_⟩
    refine LP rfl rfl rfl (xas rfl) ?_
    refine LZ ?_
    refine F_seq ?_
    refine W_seq ?_
    refine W_draw (.pure 0 (.pure 1 (.pure 2 (.pure 3 (.still 4 (.still 5 (.one 6 (.pure 7 (.pure 8 (.pure 9 (.pure 10 (.pure 11 (.still 12 (.pure 14 (.pure 15 (.pure 16 (.still 17 (.pure 18 (.pure 19 (.still 20 (.one 13 (.pure 21 (.pure 22 (.pure 23 (.pure 24 (.pure 25 (.pure 26 (.still 27 (.pure 29 (.pure 30 (.pure 31 (.still 32 (.pure 33 (.pure 34 (.still 35 (.one 28 (.pure 36 (.pure 37 (.pure 38 (.pure 39 (.pure 40 (.pure 41 (.pure 42 (.still 43 (.pure 44 (.pure 45 (.still 46 (.pure 47 (.pure 48 (.pure 49 (.still 50 (.pure 51 (.pure 52 (.pure 53 (.still 54 (.pure 55 (.pure 56 (.still 57 (.one 58 (.pure 59 (.pure 60 .nil))))))))))))))))))))))))))))))))))))))))))))))))))))))))))))) (Le w33) hfol (by kernel_rfl) (pkt pkB) (Le.drew _) ?_
    refine LP rfl rfl rfl (xmv rfl) ?_
    refine LP rfl rfl rfl (xmv rfl) ?_
    refine LP rfl rfl rfl (xbeq un4 rfl rfl) ?_
    refine L_is 35 (v := .bool true) rfl (by simp) ?_
    refine LP rfl rfl rfl (xmv rfl) ?_
    have le25 : Le w21 w24 := (hq6.le (qle12.trans hl10) (inc qle12.size hb13z inn))
    have le26 : Le w21 w33 := (hq8.le (le25.trans (qle14.trans hl14)) (inc (Nat.le_trans qle12.size (Nat.le_trans hl10.size (Nat.le_trans hq6.size qle14.size))) hb17z inn))
    refine LS rfl rfl rfl (fun w' hw' => (xlb6 ag26 (Le.bk (le26.trans hw') hb12) rfl rfl rfl rfl rfl rfl rfl)) ?_
    have le27 : Le w24 w33 := (hq8.le (qle14.trans hl14) (inc qle14.size hb17z inn))
    refine LS rfl rfl rfl (fun w' hw' => (xlb6 ag26 (Le.bk (le27.trans hw') hb14) rfl rfl rfl rfl rfl rfl rfl)) ?_
    have le28 : Le w1 w21 := (hq5.le hl9 (inc (Nat.le_refl _) hb11z inn))
    have le29 : Le w1 w24 := (hq6.le (le28.trans (qle12.trans hl10)) (inc (Nat.le_trans hl9.size (Nat.le_trans hq5.size qle12.size)) hb13z inn))
    have le30 : Le w1 w33 := (hq8.le (le29.trans (qle14.trans hl14)) (inc (Nat.le_trans hl9.size (Nat.le_trans hq5.size (Nat.le_trans qle12.size (Nat.le_trans hl10.size (Nat.le_trans hq6.size qle14.size))))) hb17z inn))
    have le31 : Le w22 w24 := (hq6.le hl10 (inc (Nat.le_refl _) hb13z inn))
    have le32 : Le w22 w33 := (hq8.le (le31.trans (qle14.trans hl14)) (inc (Nat.le_trans hl10.size (Nat.le_trans hq6.size qle14.size)) hb17z inn))
    refine LF rfl rfl rfl has21 rfl (txnSame (t := ⟨c.t.se, c.t.rq, c.t.code, c.t.args, c.t.reads, c.t.writes⟩) (RdE.le (le30.trans (Le.drew w33)) qoc1.rd) (RdE.le (le30.trans (Le.drew w33)) qoa1.rd) (RdE.le (le30.trans (Le.drew w33)) qor1.rd) (RdE.le (le30.trans (Le.drew w33)) qow1.rd) (RdE.le (le32.trans (Le.drew w33)) qoc3.rd) (RdE.le (le32.trans (Le.drew w33)) qoa3.rd) (RdE.le (le32.trans (Le.drew w33)) qor3.rd) (RdE.le (le32.trans (Le.drew w33)) qow3.rd)) ?_
    rintro _ w34 ⟨rfl, hl15⟩
    refine ⟨((Le.drew w33).trans hl15), ?_⟩
    refine LP rfl rfl rfl (xpk1 rfl rfl) ?_
    refine LP rfl rfl rfl (xmv rfl) ?_
    refine LP rfl rfl rfl (xmv rfl) ?_
    refine LP rfl rfl rfl (xnc rfl) ?_
    refine LP rfl rfl rfl (xfa fa48_0 rfl) ?_
    have le33 : Le w w33 := (hq8.le (le14.trans (qle14.trans hl14)) (inc (Nat.le_trans qle2.size (Nat.le_trans hl9.size (Nat.le_trans hq5.size (Nat.le_trans qle12.size (Nat.le_trans hl10.size (Nat.le_trans hq6.size qle14.size)))))) hb17z inn))
    refine LS rfl rfl rfl (fun w' hw' => (xld sc27 rfl (cl_bk (Le.bk (le33.trans hw') hpP) rfl))) ?_
    refine LP rfl rfl rfl (xmv rfl) ?_
    refine LP rfl rfl rfl (xnc rfl) ?_
    refine LP rfl rfl rfl (xfa fa48_1 rfl) ?_
    refine LS rfl rfl rfl (fun w' hw' => (xld sc31 rfl (cl_bk (Le.bk (le33.trans hw') hpP) rfl))) ?_
    refine LP rfl rfl rfl (xnc rfl) ?_
    refine LP rfl rfl rfl (xfa fa118_7 rfl) ?_
    refine LS rfl rfl rfl (fun w' hw' => (xld sc2 rfl (cl_bk (Le.bk (le33.trans hw') hb2) rfl))) ?_
    refine LF rfl rfl rfl has59 rfl (c_token (S := ([b5, b6, b8] ++ S)) (⟨_, _, _, _, _, (Le.bk (le33.trans ((Le.drew w33).trans hl15)) hb1), (RdX.more (Le.rdx (le33.trans ((Le.drew w33).trans hl15)) hz1) hz1.rd rfl (inc qle2.size hb11z (inc (Nat.le_trans qle2.size (Nat.le_trans hl9.size (Nat.le_trans hq5.size qle12.size))) hb13z (inc (Nat.le_trans qle2.size (Nat.le_trans hl9.size (Nat.le_trans hq5.size (Nat.le_trans qle12.size (Nat.le_trans hl10.size (Nat.le_trans hq6.size qle14.size)))))) hb17z inn)))), (RdX.more (Le.rdx (le33.trans ((Le.drew w33).trans hl15)) hz2) hz2.rd rfl (inc qle2.size hb11z (inc (Nat.le_trans qle2.size (Nat.le_trans hl9.size (Nat.le_trans hq5.size qle12.size))) hb13z (inc (Nat.le_trans qle2.size (Nat.le_trans hl9.size (Nat.le_trans hq5.size (Nat.le_trans qle12.size (Nat.le_trans hl10.size (Nat.le_trans hq6.size qle14.size)))))) hb17z inn)))), (RdX.more (Le.rdx (le33.trans ((Le.drew w33).trans hl15)) hz3) hz3.rd rfl (inc qle2.size hb11z (inc (Nat.le_trans qle2.size (Nat.le_trans hl9.size (Nat.le_trans hq5.size qle12.size))) hb13z (inc (Nat.le_trans qle2.size (Nat.le_trans hl9.size (Nat.le_trans hq5.size (Nat.le_trans qle12.size (Nat.le_trans hl10.size (Nat.le_trans hq6.size qle14.size)))))) hb17z inn)))), (RdX.more (Le.rdx (le33.trans ((Le.drew w33).trans hl15)) hz4) hz4.rd rfl (inc qle2.size hb11z (inc (Nat.le_trans qle2.size (Nat.le_trans hl9.size (Nat.le_trans hq5.size qle12.size))) hb13z (inc (Nat.le_trans qle2.size (Nat.le_trans hl9.size (Nat.le_trans hq5.size (Nat.le_trans qle12.size (Nat.le_trans hl10.size (Nat.le_trans hq6.size qle14.size)))))) hb17z inn)))), (RdX.more (Le.rdx (le33.trans ((Le.drew w33).trans hl15)) hz5) hz5.rd rfl (inc qle2.size hb11z (inc (Nat.le_trans qle2.size (Nat.le_trans hl9.size (Nat.le_trans hq5.size qle12.size))) hb13z (inc (Nat.le_trans qle2.size (Nat.le_trans hl9.size (Nat.le_trans hq5.size (Nat.le_trans qle12.size (Nat.le_trans hl10.size (Nat.le_trans hq6.size qle14.size)))))) hb17z inn))))⟩ : Cl ([b5, b6, b8] ++ S) w34 116 bc c) hok (List.mem_append_right _ hmc) (lt_app (lt_cons (Nat.lt_of_lt_of_le (bk_lt hb11) (Nat.le_trans hq5.size (Nat.le_trans qle12.size (Nat.le_trans hl10.size (Nat.le_trans hq6.size (Nat.le_trans qle14.size (Nat.le_trans hl14.size (Nat.le_trans hq8.size (Nat.le_trans (Le.drew w33).size hl15.size))))))))) (lt_cons (Nat.lt_of_lt_of_le (bk_lt hb13) (Nat.le_trans hq6.size (Nat.le_trans qle14.size (Nat.le_trans hl14.size (Nat.le_trans hq8.size (Nat.le_trans (Le.drew w33).size hl15.size)))))) (lt_cons (Nat.lt_of_lt_of_le (bk_lt hb17) (Nat.le_trans hq8.size (Nat.le_trans (Le.drew w33).size hl15.size))) lt_nil))) (lt_le hS (Nat.le_trans qle2.size (Nat.le_trans hl9.size (Nat.le_trans hq5.size (Nat.le_trans qle12.size (Nat.le_trans hl10.size (Nat.le_trans hq6.size (Nat.le_trans qle14.size (Nat.le_trans hl14.size (Nat.le_trans hq8.size (Nat.le_trans (Le.drew w33).size hl15.size)))))))))))) ) ?_
    rintro _ w35 ⟨rfl, qle17⟩
    refine ⟨((Le.drew w33).trans (hl15.trans qle17)), ?_⟩
    refine LP rfl rfl rfl (xeql rfl rfl) ?_
    refine L_is 54 (v := .bool true) rfl (by simp) ?_
    refine LP rfl rfl rfl (xpk1 rfl rfl) ?_
    refine LP rfl rfl rfl (xmv rfl) ?_
    refine LP rfl rfl rfl (xmv rfl) ?_
    refine LP rfl rfl rfl (xnc rfl) ?_
    refine LP rfl rfl rfl (xfa fa48_0 rfl) ?_
    refine LS rfl rfl rfl (fun w' hw' => (xld sc27 rfl (cl_bk (Le.bk (le33.trans hw') hpP) rfl))) ?_
    refine LP rfl rfl rfl (xmv rfl) ?_
    refine LP rfl rfl rfl (xnc rfl) ?_
    refine LP rfl rfl rfl (xfa fa48_1 rfl) ?_
    refine LS rfl rfl rfl (fun w' hw' => (xld sc31 rfl (cl_bk (Le.bk (le33.trans hw') hpP) rfl))) ?_
    refine LP rfl rfl rfl (xnc rfl) ?_
    refine LP rfl rfl rfl (xfa fa118_2 rfl) ?_
    refine LS rfl rfl rfl (fun w' hw' => (xld sc2 rfl (cl_bk (Le.bk (le33.trans hw') hb2) rfl))) ?_
    refine LF rfl rfl rfl has78 rfl (c_request (S := ([b5, b6, b8] ++ S)) (⟨_, _, _, _, _, (Le.bk (le33.trans ((Le.drew w33).trans (hl15.trans qle17))) hb1), (RdX.more (Le.rdx (le33.trans ((Le.drew w33).trans (hl15.trans qle17))) hz1) hz1.rd rfl (inc qle2.size hb11z (inc (Nat.le_trans qle2.size (Nat.le_trans hl9.size (Nat.le_trans hq5.size qle12.size))) hb13z (inc (Nat.le_trans qle2.size (Nat.le_trans hl9.size (Nat.le_trans hq5.size (Nat.le_trans qle12.size (Nat.le_trans hl10.size (Nat.le_trans hq6.size qle14.size)))))) hb17z inn)))), (RdX.more (Le.rdx (le33.trans ((Le.drew w33).trans (hl15.trans qle17))) hz2) hz2.rd rfl (inc qle2.size hb11z (inc (Nat.le_trans qle2.size (Nat.le_trans hl9.size (Nat.le_trans hq5.size qle12.size))) hb13z (inc (Nat.le_trans qle2.size (Nat.le_trans hl9.size (Nat.le_trans hq5.size (Nat.le_trans qle12.size (Nat.le_trans hl10.size (Nat.le_trans hq6.size qle14.size)))))) hb17z inn)))), (RdX.more (Le.rdx (le33.trans ((Le.drew w33).trans (hl15.trans qle17))) hz3) hz3.rd rfl (inc qle2.size hb11z (inc (Nat.le_trans qle2.size (Nat.le_trans hl9.size (Nat.le_trans hq5.size qle12.size))) hb13z (inc (Nat.le_trans qle2.size (Nat.le_trans hl9.size (Nat.le_trans hq5.size (Nat.le_trans qle12.size (Nat.le_trans hl10.size (Nat.le_trans hq6.size qle14.size)))))) hb17z inn)))), (RdX.more (Le.rdx (le33.trans ((Le.drew w33).trans (hl15.trans qle17))) hz4) hz4.rd rfl (inc qle2.size hb11z (inc (Nat.le_trans qle2.size (Nat.le_trans hl9.size (Nat.le_trans hq5.size qle12.size))) hb13z (inc (Nat.le_trans qle2.size (Nat.le_trans hl9.size (Nat.le_trans hq5.size (Nat.le_trans qle12.size (Nat.le_trans hl10.size (Nat.le_trans hq6.size qle14.size)))))) hb17z inn)))), (RdX.more (Le.rdx (le33.trans ((Le.drew w33).trans (hl15.trans qle17))) hz5) hz5.rd rfl (inc qle2.size hb11z (inc (Nat.le_trans qle2.size (Nat.le_trans hl9.size (Nat.le_trans hq5.size qle12.size))) hb13z (inc (Nat.le_trans qle2.size (Nat.le_trans hl9.size (Nat.le_trans hq5.size (Nat.le_trans qle12.size (Nat.le_trans hl10.size (Nat.le_trans hq6.size qle14.size)))))) hb17z inn))))⟩ : Cl ([b5, b6, b8] ++ S) w35 116 bc c) hok (List.mem_append_right _ hmc) (lt_app (lt_cons (Nat.lt_of_lt_of_le (bk_lt hb11) (Nat.le_trans hq5.size (Nat.le_trans qle12.size (Nat.le_trans hl10.size (Nat.le_trans hq6.size (Nat.le_trans qle14.size (Nat.le_trans hl14.size (Nat.le_trans hq8.size (Nat.le_trans (Le.drew w33).size (Nat.le_trans hl15.size qle17.size)))))))))) (lt_cons (Nat.lt_of_lt_of_le (bk_lt hb13) (Nat.le_trans hq6.size (Nat.le_trans qle14.size (Nat.le_trans hl14.size (Nat.le_trans hq8.size (Nat.le_trans (Le.drew w33).size (Nat.le_trans hl15.size qle17.size))))))) (lt_cons (Nat.lt_of_lt_of_le (bk_lt hb17) (Nat.le_trans hq8.size (Nat.le_trans (Le.drew w33).size (Nat.le_trans hl15.size qle17.size)))) lt_nil))) (lt_le hS (Nat.le_trans qle2.size (Nat.le_trans hl9.size (Nat.le_trans hq5.size (Nat.le_trans qle12.size (Nat.le_trans hl10.size (Nat.le_trans hq6.size (Nat.le_trans qle14.size (Nat.le_trans hl14.size (Nat.le_trans hq8.size (Nat.le_trans (Le.drew w33).size (Nat.le_trans hl15.size qle17.size))))))))))))) ) ?_
    rintro _ w36 ⟨rfl, qle18⟩
    refine ⟨((Le.drew w33).trans (hl15.trans (qle17.trans qle18))), ?_⟩
    refine LP rfl rfl rfl (xeql rfl rfl) ?_
    refine L_is 69 (v := .bool true) rfl (by simp) ?_
    refine LP rfl rfl rfl (xpk1 rfl rfl) ?_
    refine LP rfl rfl rfl (xmv rfl) ?_
    refine LP rfl rfl rfl (xmv rfl) ?_
    refine LP rfl rfl rfl (xmv rfl) ?_
    refine LP rfl rfl rfl (xnc rfl) ?_
    refine LP rfl rfl rfl (xfa fa48_1 rfl) ?_
    refine LS rfl rfl rfl (fun w' hw' => (xld sc31 rfl (cl_bk (Le.bk (le33.trans hw') hpP) rfl))) ?_
    refine LP rfl rfl rfl (xnc rfl) ?_
    refine LP rfl rfl rfl (xfa fa118_8 rfl) ?_
    refine LS rfl rfl rfl (fun w' hw' => (xld sc4 rfl (cl_bk (Le.bk (le33.trans hw') hb2) rfl))) ?_
    refine L_is 79 (v := .bool true) rfl (congrArg Value.bool qf10) ?_
    refine LP rfl rfl rfl (xbeq un4 rfl rfl) ?_
    refine L_is 80 (v := .bool true) rfl (by simp) ?_
    refine LP rfl rfl rfl (xpk1 rfl rfl) ?_
    refine LP rfl rfl rfl (xmv rfl) ?_
    refine LS rfl rfl rfl (fun w' hw' => (xlb4 ag50 (Le.bk hw' hb18) rfl rfl rfl rfl rfl)) ?_
    refine LP rfl rfl rfl (xmv rfl) ?_
    refine LP rfl rfl rfl (xnc rfl) ?_
    refine LP rfl rfl rfl (xfa fa48_1 rfl) ?_
    refine LS rfl rfl rfl (fun w' hw' => (xld sc31 rfl (cl_bk (Le.bk (le33.trans hw') hpP) rfl))) ?_
    refine LP rfl rfl rfl (xnc rfl) ?_
    refine LP rfl rfl rfl (xfa fa118_9 rfl) ?_
    refine LS rfl rfl rfl (fun w' hw' => (xlb4 ag50 (Le.bk (le33.trans hw') hb2) rfl rfl rfl rfl rfl)) ?_
    have le34 : Le w25 w33 := (hq8.le hl14 (inc (Nat.le_refl _) hb17z inn))
    refine LF rfl rfl rfl has79 rfl (resSame (r := ⟨c.last.e, c.last.vals, c.last.slot, c.last.place⟩) (RdE.le (le34.trans ((Le.drew w33).trans (hl15.trans (qle17.trans qle18)))) qo2.rd) (RdE.le (le33.trans ((Le.drew w33).trans (hl15.trans (qle17.trans qle18)))) hz10.rd)) ?_
    rintro _ w37 ⟨rfl, hl16⟩
    refine ⟨((Le.drew w33).trans (hl15.trans (qle17.trans (qle18.trans hl16)))), ?_⟩
    refine LP rfl rfl rfl (xpk1 rfl rfl) ?_
    refine LP rfl rfl rfl (xas rfl) ?_
    refine LZ ?_
    refine F_seq ?_
    refine W_ret ?_
    exact F_end1 rfl rfl ⟨_, rfl, rfl, (le33.trans ((Le.drew w33).trans (hl15.trans (qle17.trans (qle18.trans hl16)))))⟩
end Go.Proofs.Ythmhbonhagjnnaa
