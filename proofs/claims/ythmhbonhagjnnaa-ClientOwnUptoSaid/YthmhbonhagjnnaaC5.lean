/- Sessions: queries, what is pending, the last result. -/
import Derived.Test.YthmhbonhagjnnaaProg
import Derived.Test.YthmhbonhagjnnaaC4
import Derived.KernelRfl
namespace Go.Proofs.Ythmhbonhagjnnaa
open Go.RowKit
set_option linter.unusedVariables false
set_option linter.unusedSimpArgs false
theorem bd36_0ibsi_2ibsi_3ibsi_4ibsi : ∀ (x0_0 : Int) (x2_0 : Bool) (Ax3_0 : Option Addr) (nx3_0 cx3_0 : Nat) (x4_0 : Int), BD Try.prog 36 [(0, .int .i64 x0_0), (2, .bool x2_0), (3, .slice Ax3_0 nx3_0 cx3_0), (4, .int .i64 x4_0)] #[.int .i64 x0_0, .int .i64 0, .int .i64 0, .slice none 0 0, .slice none 0 0, .slice none 0 0, .slice none 0 0, .bool x2_0, .slice Ax3_0 nx3_0 cx3_0, .int .i64 x4_0] := fun _ _ _ _ _ _ => fun _ => by kernel_rfl
theorem fa55_0 : FA Try.prog 55 0 0 := fun _ _ _ => by kernel_rfl
theorem fa55_1 : FA Try.prog 55 1 1 := fun _ _ _ => by kernel_rfl
theorem bd26_ : ∀ (_ : Unit), BD Try.prog 26 [] #[.int .i64 0, .int .i64 0, .slice none 0 0, .slice none 0 0, .slice none 0 0, .slice none 0 0] := fun _ _ => by kernel_rfl
theorem zr50 : Zr Try.prog 50 [.int .i64 0, .slice none 0 0, .int .i64 0, .int .i64 0] := Zr.of (z := .agg #[.int .i64 0, .slice none 0 0, .int .i64 0, .int .i64 0]) (fun _ => by kernel_rfl) rfl
theorem bd50_ : ∀ (_ : Unit), BD Try.prog 50 [] #[.int .i64 0, .slice none 0 0, .int .i64 0, .int .i64 0] := fun _ _ => by kernel_rfl
theorem ag116 : Ag Try.prog 116 18 := ⟨fun _ => by kernel_rfl, fun _ => by kernel_rfl⟩
theorem zr116 : Zr Try.prog 116 [.int .i64 0, .int .i64 0, .int .i64 0, .bool false, .int .i64 0, .int .i64 0, .slice none 0 0, .slice none 0 0, .slice none 0 0, .slice none 0 0, .int .i64 0, .int .i64 0, .int .i64 0, .bool false, .int .i64 0, .slice none 0 0, .int .i64 0, .int .i64 0] := Zr.of (z := .agg #[.int .i64 0, .int .i64 0, .int .i64 0, .bool false, .int .i64 0, .int .i64 0, .slice none 0 0, .slice none 0 0, .slice none 0 0, .slice none 0 0, .int .i64 0, .int .i64 0, .int .i64 0, .bool false, .int .i64 0, .slice none 0 0, .int .i64 0, .int .i64 0]) (fun _ => by kernel_rfl) rfl
theorem sz116 : ∀ w, (sizeOf 116).run Try.prog w = .ok 18 w := fun _ => by kernel_rfl
theorem c_query {S : List Nat} {b : Nat} {c : Cli} {rep : Int} {vk : Value} {l : List Key} {w : World} (hc : Cl S w 116 b c) (hok : c.ok) (hbS : b ∈ S) (hS : ∀ i ∈ S, i < w.heap.size) (hkl : RdE w.heap KeyE vk l) (hn : l.length ≤ 4294967296) :
    Fn Try.prog 72 #[.pointer (some ⟨b, 0, none⟩), .int .i64 rep, vk] w fun v w' => (queryE c rep l ≠ 0 ∧ v = .tuple #[(.agg #[.int .i64 0, .int .i64 zTxn.se, .int .i64 zTxn.rq, .slice none 0 0, .slice none 0 0, .slice none 0 0, .slice none 0 0, .bool false, .slice none 0 0, .int .i64 0]), .int .i64 (queryE c rep l)] ∧ Le w w') ∨ (queryE c rep l = 0 ∧ ∃ xk, v = .tuple #[(.agg #[.int .i64 rep, .int .i64 zTxn.se, .int .i64 zTxn.rq, .slice none 0 0, .slice none 0 0, .slice none 0 0, .slice none 0 0, .bool true, xk, .int .i64 c.tok]), .int .i64 0] ∧ Le w w' ∧ Ow w' w 40 KeyE xk (keysOf l)) := by
 refine Fn.enter 37 [(0, _), (1, _), (2, _)] Try.func72 rfl rfl rfl rfl ?_
 obtain ⟨vc, va, vr, vw, vl, hb, hcc, hca, hcr, hcw, hcl⟩ := id hc
 have hr1 := hok.r1
 have hr2 := hok.r2
 have hq1 := hok.q1
 have hq2 := hok.q2
 have hw1 := hok.w1
 have hw2 := hok.w2
 have ht1 := hok.t1
 have ht2 := hok.t2
 obtain ⟨hzc, hza, hzr, hzw⟩ := hok.sm
 have hzl := hok.lv
 have hzk := hkl.sh.le
 refine W_seq ?_
 refine W_reg (.one 0 (.pure 1 .nil)) rfl ?_
 refine LT rfl rfl rfl (xal zr36) ?_
 rintro _ w1 ⟨b1, rfl, hl1, hb1, hb1z⟩
 refine ⟨trivial, ?_⟩
 refine LP rfl rfl rfl (xas rfl) ?_
 refine LZ ?_
 refine F_seq ?_
 refine W_seq ?_
 refine W_block ?_
 refine W_seq ?_
 refine W_reg (.pure 0 (.one 1 (.pure 2 .nil))) rfl ?_
 refine LP rfl rfl rfl (xmv rfl) ?_
 refine LF rfl rfl rfl has60 rfl (c_none (Le.clx hl1 hc) hok hbS (lt_le hS hl1.size)) ?_
 rintro _ w2 ⟨rfl, hl2⟩
 refine ⟨trivial, ?_⟩
 refine LP rfl rfl rfl (xas rfl) ?_
 refine LZ ?_
 refine F_seq ?_
 refine W_else rfl ?_
 refine W_seq ?_
 refine W_reg (.pure 0 (.pure 1 (.pure 2 (.pure 3 (.pure 4 (.pure 5 (.pure 6 (.one 7 (.pure 8 (.pure 9 (.pure 10 .nil))))))))))) rfl ?_
 refine LP rfl rfl rfl (xmv rfl) ?_
 refine LP rfl rfl rfl (xlss rfl rfl) ?_
 refine LP rfl rfl rfl (xmv rfl) ?_
 refine L_split (t := 15) rfl (fun c2 => ?_) (fun c2 => ?_)
 · -- c2 yes
  replace c2 := of_decide_eq_true c2
  refine LN rfl rfl rfl ?_
  refine LN rfl rfl rfl ?_
  refine LN rfl rfl rfl ?_
  refine LN rfl rfl rfl ?_
  refine LNo rfl rfl rfl trivial ?_
  refine LN rfl rfl rfl ?_
  refine LP rfl rfl rfl (xpk1 rfl rfl) ?_
  refine LP rfl rfl rfl (xas rfl) ?_
  refine LZ ?_
  refine F_seq ?_
  refine W_if rfl ?_
  refine W_seq ?_
  refine W_reg (.pure 0 (.one 1 (.pure 2 .nil))) rfl ?_
  refine LP rfl rfl rfl (xbd rfl (bd36_ ())) ?_
  refine LU rfl rfl (xsb sz36 (Le.bk hl2 hb1) rfl rfl (agg_cells _) rfl rfl (al_cons rfl (al_cons rfl (al_cons rfl (al_cons rfl (al_cons rfl (al_cons rfl (al_cons rfl (al_cons rfl (al_cons rfl (al_cons rfl al_nil))))))))))) ?_
  rintro w3 ⟨hq1, hb2⟩
  dsimp only [put] at hb2
  refine ⟨trivial, ?_⟩
  refine LP rfl rfl rfl (xas rfl) ?_
  refine LZ ?_
  refine F_seq ?_
  refine W_ret ?_
  refine F_ret_block ?_
  refine F_ret_then ?_
  have le1 : Le w w3 := (hq1.le (hl1.trans hl2) (inc (Nat.le_refl _) hb1z inn))
  have hE : queryE c rep l = 1 := by unfold queryE; rw [if_pos (by omega)]
  exact F_endR (rs := [.cell 6 36, .tmp 7]) rfl (.cell rfl (run_ld0 ag36 hb2 rfl) (.tmp rfl .nil)) rfl ⟨_, rfl, .inl ⟨by rw [hE]; decide, (by rw [hE]; rfl), le1⟩⟩
 · -- c2 no
  replace c2 := of_decide_eq_false c2
  refine LP rfl rfl rfl (xmv rfl) ?_
  refine LP rfl rfl rfl (xmv rfl) ?_
  refine LP rfl rfl rfl (xnc rfl) ?_
  refine LP rfl rfl rfl (xfa fa116_1 rfl) ?_
  refine LX rfl rfl rfl (xld sc3 rfl (cl_bk (Le.bk (hl1.trans hl2) hb) rfl)) trivial ?_
  refine LP rfl rfl rfl (xgeq rfl rfl) ?_
  refine LP rfl rfl rfl (xpk0 rfl rfl) ?_
  refine LP rfl rfl rfl (xas rfl) ?_
  refine LZ ?_
  refine F_seq ?_
  refine W_cond rfl (fun c4 => ?_) (fun c4 => ?_)
  · -- c4 yes
   replace c4 := of_decide_eq_true c4
   refine W_seq ?_
   refine W_reg (.pure 0 (.one 1 (.pure 2 .nil))) rfl ?_
   refine LP rfl rfl rfl (xbd rfl (bd36_ ())) ?_
   refine LU rfl rfl (xsb sz36 (Le.bk hl2 hb1) rfl rfl (agg_cells _) rfl rfl (al_cons rfl (al_cons rfl (al_cons rfl (al_cons rfl (al_cons rfl (al_cons rfl (al_cons rfl (al_cons rfl (al_cons rfl (al_cons rfl al_nil))))))))))) ?_
   rintro w4 ⟨hq2, hb3⟩
   dsimp only [put] at hb3
   refine ⟨trivial, ?_⟩
   refine LP rfl rfl rfl (xas rfl) ?_
   refine LZ ?_
   refine F_seq ?_
   refine W_ret ?_
   refine F_ret_block ?_
   refine F_ret_then ?_
   have le2 : Le w w4 := (hq2.le (hl1.trans hl2) (inc (Nat.le_refl _) hb1z inn))
   have hE : queryE c rep l = 1 := by unfold queryE; rw [if_pos (by omega)]
   exact F_endR (rs := [.cell 6 36, .tmp 7]) rfl (.cell rfl (run_ld0 ag36 hb3 rfl) (.tmp rfl .nil)) rfl ⟨_, rfl, .inl ⟨by rw [hE]; decide, (by rw [hE]; rfl), le2⟩⟩
  · -- c4 no
   replace c4 := of_decide_eq_false c4
   refine W_seq ?_
   refine W_reg (.pure 0 (.pure 1 (.pure 2 (.pure 3 .nil)))) rfl ?_
   refine LP rfl rfl rfl (xmv rfl) ?_
   refine LP rfl rfl rfl (xlen un24 hkl.sh rfl) ?_
   refine LP rfl rfl rfl (xgtr rfl rfl) ?_
   refine LP rfl rfl rfl (xas rfl) ?_
   refine LZ ?_
   refine F_seq ?_
   refine W_cond rfl (fun c5 => ?_) (fun c5 => ?_)
   · -- c5 yes
    replace c5 := of_decide_eq_true c5
    refine W_seq ?_
    refine W_reg (.pure 0 (.one 1 (.pure 2 .nil))) rfl ?_
    refine LP rfl rfl rfl (xbd rfl (bd36_ ())) ?_
    refine LU rfl rfl (xsb sz36 (Le.bk hl2 hb1) rfl rfl (agg_cells _) rfl rfl (al_cons rfl (al_cons rfl (al_cons rfl (al_cons rfl (al_cons rfl (al_cons rfl (al_cons rfl (al_cons rfl (al_cons rfl (al_cons rfl al_nil))))))))))) ?_
    rintro w5 ⟨hq3, hb4⟩
    dsimp only [put] at hb4
    refine ⟨trivial, ?_⟩
    refine LP rfl rfl rfl (xas rfl) ?_
    refine LZ ?_
    refine F_seq ?_
    refine W_ret ?_
    refine F_ret_block ?_
    refine F_ret_then ?_
    have le3 : Le w w5 := (hq3.le (hl1.trans hl2) (inc (Nat.le_refl _) hb1z inn))
    have hE : queryE c rep l = 3 := by unfold queryE; rw [if_neg (by omega), if_pos (by omega)]
    exact F_endR (rs := [.cell 6 36, .tmp 7]) rfl (.cell rfl (run_ld0 ag36 hb4 rfl) (.tmp rfl .nil)) rfl ⟨_, rfl, .inl ⟨by rw [hE]; decide, (by rw [hE]; rfl), le3⟩⟩
   · -- c5 no
    replace c5 := of_decide_eq_false c5
    refine W_skip ?_
    refine F_block ?_
    refine F_seq ?_
    refine W_seq ?_
    refine W_draw (.pure 0 (.pure 1 (.pure 3 (.pure 4 (.pure 5 (.still 6 (.one 2 (.pure 7 (.tail 8 (.pure 9 .nil)))))))))) (Le w2) hfol (by kernel_rfl) (pkt pkB) (Le.drew _) ?_
    refine LP rfl rfl rfl (xmv rfl) ?_
    refine LP rfl rfl rfl (xmv rfl) ?_
    refine LP rfl rfl rfl (xmv rfl) ?_
    refine LP rfl rfl rfl (xnc rfl) ?_
    refine LP rfl rfl rfl (xfa fa116_7 rfl) ?_
    refine LS rfl rfl rfl (fun w' hw' => (xld sc2 rfl (cl_bk (Le.bk ((hl1.trans hl2).trans hw') hb) rfl))) ?_
    refine LF rfl rfl rfl has96 rfl (shkeys (RdE.le (hl1.trans (hl2.trans (Le.drew w2))) hkl) (by first | omega | (simp only [List.length_append, List.length_take, List.length_drop, List.length_cons, List.length_nil]; omega))) ?_
    rintro v2 w6 ⟨hl3, ho1⟩
    refine ⟨((Le.drew w2).trans hl3), ?_⟩
    obtain ⟨A1, cp1, hA1⟩ := ho1.rd.sh.form
    subst hA1
    refine LP rfl rfl rfl (xbd rfl (bd36_0ibsi_2ibsi_3ibsi_4ibsi rep _ _ _ _ c.tok)) ?_
    refine LUt rfl rfl (xsb sz36 (Le.bk (hl2.trans ((Le.drew w2).trans hl3)) hb1) rfl rfl (agg_cells _) rfl rfl (al_cons rfl (al_cons rfl (al_cons rfl (al_cons rfl (al_cons rfl (al_cons rfl (al_cons rfl (al_cons rfl (al_cons ho1.rd.sh.one (al_cons rfl al_nil))))))))))) ?_
    rintro w7 ⟨hq4, hb5⟩
    dsimp only [put] at hb5
    have hk1 := hq4.ow (Off.cons (Ow.ne_new ho1 (Nat.lt_of_lt_of_le (bk_lt hb1) (Nat.le_trans hl2.size (Le.drew w2).size))) Off.nil) ho1
    refine LP rfl rfl rfl (xas rfl) ?_
    refine LZ ?_
    refine F_seq ?_
    refine W_ret ?_
    have le4 : Le w w7 := (hq4.le (hl1.trans (hl2.trans ((Le.drew w2).trans hl3))) (inc (Nat.le_refl _) hb1z inn))
    have hE : queryE c rep l = 0 := by unfold queryE; rw [if_neg (by omega), if_neg (by omega)]
    exact F_endR (rs := [.cell 6 36, .tmp 7]) rfl (.cell rfl (run_ld0 ag36 hb5 rfl) (.tmp rfl .nil)) rfl ⟨_, rfl, .inr ⟨hE, _, rfl, le4, (hk1).base (Nat.le_trans hl1.size (Nat.le_trans hl2.size (Le.drew w2).size))⟩⟩
theorem r_query {S : List Nat} {b : Nat} {c : Cli} {rep : Int} {vk : Value} {l : List Key} {w : World} (hc : Cl S w 118 b c) (hok : c.ok) (hbS : b ∈ S) (hS : ∀ i ∈ S, i < w.heap.size) (hkl : RdE w.heap KeyE vk l) (hn : l.length ≤ 4294967296) :
    Fn Try.prog 73 #[.pointer (some ⟨b, 0, none⟩), .int .i64 rep, vk] w fun v w' => (queryE c rep l ≠ 0 ∧ v = .tuple #[(.agg #[.int .i64 0, .int .i64 zTxn.se, .int .i64 zTxn.rq, .slice none 0 0, .slice none 0 0, .slice none 0 0, .slice none 0 0, .bool false, .slice none 0 0, .int .i64 0]), .int .i64 (queryE c rep l)] ∧ Le w w') ∨ (queryE c rep l = 0 ∧ ∃ xk, v = .tuple #[(.agg #[.int .i64 rep, .int .i64 zTxn.se, .int .i64 zTxn.rq, .slice none 0 0, .slice none 0 0, .slice none 0 0, .slice none 0 0, .bool true, xk, .int .i64 c.tok]), .int .i64 0] ∧ Le w w' ∧ Ow w' w 40 KeyE xk (keysOf l)) := by
 refine Fn.enter 25 [(0, _), (1, _), (2, _)] Try.func73 rfl rfl rfl rfl ?_
 obtain ⟨vc, va, vr, vw, vl, hb, hcc, hca, hcr, hcw, hcl⟩ := id hc
 have hr1 := hok.r1
 have hr2 := hok.r2
 have hq1 := hok.q1
 have hq2 := hok.q2
 have hw1 := hok.w1
 have hw2 := hok.w2
 have ht1 := hok.t1
 have ht2 := hok.t2
 obtain ⟨hzc, hza, hzr, hzw⟩ := hok.sm
 have hzl := hok.lv
 have hzk := hkl.sh.le
 refine W_seq ?_
 refine W_reg (.one 0 (.pure 1 .nil)) rfl ?_
 refine LT rfl rfl rfl (xal zr36) ?_
 rintro _ w1 ⟨b1, rfl, hl1, hb1, hb1z⟩
 refine ⟨trivial, ?_⟩
 refine LP rfl rfl rfl (xas rfl) ?_
 refine LZ ?_
 refine F_seq ?_
 refine W_seq ?_
 refine W_seq ?_
 refine W_reg (.pure 0 (.pure 1 (.one 2 (.pure 3 .nil)))) rfl ?_
 refine LP rfl rfl rfl (xmv rfl) ?_
 refine LP rfl rfl rfl (xmv rfl) ?_
 refine LF rfl rfl rfl has63 rfl (r_may (Le.clx hl1 hc) hok hbS (lt_le hS hl1.size)) ?_
 rintro _ w2 ⟨rfl, hl2⟩
 refine ⟨trivial, ?_⟩
 refine LP rfl rfl rfl (xnot rfl) ?_
 refine LZ ?_
 refine F_seq ?_
 refine W_cond rfl (fun c1 => ?_) (fun c1 => ?_)
 · -- c1 yes
  try simp only [Bool.not_eq_true', Bool.not_eq_false', decide_eq_true_eq, decide_eq_false_iff_not] at c1
  refine W_seq ?_
  refine W_reg (.pure 0 (.one 1 (.pure 2 .nil))) rfl ?_
  refine LP rfl rfl rfl (xbd rfl (bd36_ ())) ?_
  refine LU rfl rfl (xsb sz36 (Le.bk hl2 hb1) rfl rfl (agg_cells _) rfl rfl (al_cons rfl (al_cons rfl (al_cons rfl (al_cons rfl (al_cons rfl (al_cons rfl (al_cons rfl (al_cons rfl (al_cons rfl (al_cons rfl al_nil))))))))))) ?_
  rintro w3 ⟨hq1, hb2⟩
  dsimp only [put] at hb2
  refine ⟨trivial, ?_⟩
  refine LP rfl rfl rfl (xas rfl) ?_
  refine LZ ?_
  refine F_seq ?_
  refine W_ret ?_
  refine F_ret_then ?_
  have le1 : Le w w3 := (hq1.le (hl1.trans hl2) (inc (Nat.le_refl _) hb1z inn))
  have hE : queryE c rep l = 1 := by unfold queryE; rw [if_pos (by omega)]
  exact F_endR (rs := [.cell 6 36, .tmp 7]) rfl (.cell rfl (run_ld0 ag36 hb2 rfl) (.tmp rfl .nil)) rfl ⟨_, rfl, .inl ⟨by rw [hE]; decide, (by rw [hE]; rfl), le1⟩⟩
 · -- c1 no
  try simp only [Bool.not_eq_true', Bool.not_eq_false', decide_eq_true_eq, decide_eq_false_iff_not] at c1
  refine W_skip ?_
  refine F_seq ?_
  refine W_seq ?_
  refine W_seq ?_
  refine W_reg (.pure 0 (.pure 1 (.pure 2 .nil))) rfl ?_
  refine LP rfl rfl rfl (xmv rfl) ?_
  refine LP rfl rfl rfl (xlen un24 hkl.sh rfl) ?_
  refine LP rfl rfl rfl (xgtr rfl rfl) ?_
  refine LZ ?_
  refine F_seq ?_
  refine W_cond rfl (fun c2 => ?_) (fun c2 => ?_)
  · -- c2 yes
   replace c2 := of_decide_eq_true c2
   refine W_seq ?_
   refine W_reg (.pure 0 (.one 1 (.pure 2 .nil))) rfl ?_
   refine LP rfl rfl rfl (xbd rfl (bd36_ ())) ?_
   refine LU rfl rfl (xsb sz36 (Le.bk hl2 hb1) rfl rfl (agg_cells _) rfl rfl (al_cons rfl (al_cons rfl (al_cons rfl (al_cons rfl (al_cons rfl (al_cons rfl (al_cons rfl (al_cons rfl (al_cons rfl (al_cons rfl al_nil))))))))))) ?_
   rintro w4 ⟨hq2, hb3⟩
   dsimp only [put] at hb3
   refine ⟨trivial, ?_⟩
   refine LP rfl rfl rfl (xas rfl) ?_
   refine LZ ?_
   refine F_seq ?_
   refine W_ret ?_
   refine F_ret_then ?_
   have le2 : Le w w4 := (hq2.le (hl1.trans hl2) (inc (Nat.le_refl _) hb1z inn))
   have hE : queryE c rep l = 3 := by unfold queryE; rw [if_neg (by omega), if_pos (by omega)]
   exact F_endR (rs := [.cell 6 36, .tmp 7]) rfl (.cell rfl (run_ld0 ag36 hb3 rfl) (.tmp rfl .nil)) rfl ⟨_, rfl, .inl ⟨by rw [hE]; decide, (by rw [hE]; rfl), le2⟩⟩
  · -- c2 no
   replace c2 := of_decide_eq_false c2
   refine W_skip ?_
   refine F_seq ?_
   refine W_seq ?_
   refine W_draw (.pure 0 (.pure 1 (.pure 3 (.pure 4 (.pure 5 (.still 6 (.one 2 (.pure 7 (.tail 8 (.pure 9 .nil)))))))))) (Le w2) hfol (by kernel_rfl) (pkt pkB) (Le.drew _) ?_
   refine LP rfl rfl rfl (xmv rfl) ?_
   refine LP rfl rfl rfl (xmv rfl) ?_
   refine LP rfl rfl rfl (xmv rfl) ?_
   refine LP rfl rfl rfl (xnc rfl) ?_
   refine LP rfl rfl rfl (xfa fa118_7 rfl) ?_
   refine LS rfl rfl rfl (fun w' hw' => (xld sc2 rfl (cl_bk (Le.bk ((hl1.trans hl2).trans hw') hb) rfl))) ?_
   refine LF rfl rfl rfl has111 rfl (keys11 (RdE.le (hl1.trans (hl2.trans (Le.drew w2))) hkl) (by first | omega | (simp only [List.length_append, List.length_take, List.length_drop, List.length_cons, List.length_nil]; omega))) ?_
   rintro v2 w5 ⟨hl3, ho1⟩
   refine ⟨((Le.drew w2).trans hl3), ?_⟩
   obtain ⟨A1, cp1, hA1⟩ := ho1.rd.sh.form
   subst hA1
   refine LP rfl rfl rfl (xbd rfl (bd36_0ibsi_2ibsi_3ibsi_4ibsi rep _ _ _ _ c.tok)) ?_
   refine LUt rfl rfl (xsb sz36 (Le.bk (hl2.trans ((Le.drew w2).trans hl3)) hb1) rfl rfl (agg_cells _) rfl rfl (al_cons rfl (al_cons rfl (al_cons rfl (al_cons rfl (al_cons rfl (al_cons rfl (al_cons rfl (al_cons rfl (al_cons ho1.rd.sh.one (al_cons rfl al_nil))))))))))) ?_
   rintro w6 ⟨hq3, hb4⟩
   dsimp only [put] at hb4
   have hk1 := hq3.ow (Off.cons (Ow.ne_new ho1 (Nat.lt_of_lt_of_le (bk_lt hb1) (Nat.le_trans hl2.size (Le.drew w2).size))) Off.nil) ho1
   refine LP rfl rfl rfl (xas rfl) ?_
   refine LZ ?_
   refine F_seq ?_
   refine W_ret ?_
   have le3 : Le w w6 := (hq3.le (hl1.trans (hl2.trans ((Le.drew w2).trans hl3))) (inc (Nat.le_refl _) hb1z inn))
   have hE : queryE c rep l = 0 := by unfold queryE; rw [if_neg (by omega), if_neg (by omega)]
   exact F_endR (rs := [.cell 6 36, .tmp 7]) rfl (.cell rfl (run_ld0 ag36 hb4 rfl) (.tmp rfl .nil)) rfl ⟨_, rfl, .inr ⟨hE, _, rfl, le3, (hk1).base (Nat.le_trans hl1.size (Nat.le_trans hl2.size (Le.drew w2).size))⟩⟩
theorem c_found {S : List Nat} {b : Nat} {c : Cli} {fe fi : Int} {vp : Value} {fp : List KPair} {w : World} (hc : Cl S w 116 b c) (hok : c.ok) (hbS : b ∈ S) (hS : ∀ i ∈ S, i < w.heap.size) (hfp : RdE w.heap PairE vp fp) :
    Fn Try.prog 74 #[.pointer (some ⟨b, 0, none⟩), (.agg #[.int .i64 fe, .int .i64 fi, vp])] w fun v w' => (foundE c fe fi ≠ 0 ∧ v = .int .i64 (foundE c fe fi) ∧ Le w w') ∨ (foundE c fe fi = 0 ∧ v = .int .i64 0 ∧ Lx [b] w w' ∧ Cl S w' 116 b (foundC c fi)) := by
 refine Fn.enter 36 [(0, _), (1, _)] Try.func74 rfl rfl rfl rfl ?_
 obtain ⟨vc, va, vr, vw, vl, hb, hcc, hca, hcr, hcw, hcl⟩ := id hc
 have hr1 := hok.r1
 have hr2 := hok.r2
 have hq1 := hok.q1
 have hq2 := hok.q2
 have hw1 := hok.w1
 have hw2 := hok.w2
 have ht1 := hok.t1
 have ht2 := hok.t2
 obtain ⟨hzc, hza, hzr, hzw⟩ := hok.sm
 have hzl := hok.lv
 refine W_seq ?_
 refine W_reg (.one 0 (.pure 1 .nil)) rfl ?_
 refine LT rfl rfl rfl (xbox rfl) ?_
 rintro _ w1 ⟨b1, rfl, hl1, hb1, hb1z⟩
 refine ⟨trivial, ?_⟩
 refine LP rfl rfl rfl (xas rfl) ?_
 refine LZ ?_
 refine F_seq ?_
 refine W_seq ?_
 refine W_block ?_
 refine W_seq ?_
 refine W_reg (.pure 0 (.one 1 (.pure 2 .nil))) rfl ?_
 refine LP rfl rfl rfl (xmv rfl) ?_
 refine LF rfl rfl rfl has60 rfl (c_none (Le.clx hl1 hc) hok hbS (lt_le hS hl1.size)) ?_
 rintro _ w2 ⟨rfl, hl2⟩
 refine ⟨trivial, ?_⟩
 refine LP rfl rfl rfl (xas rfl) ?_
 refine LZ ?_
 refine F_seq ?_
 refine W_else rfl ?_
 refine W_seq ?_
 refine W_reg (.pure 0 (.one 1 (.pure 2 (.pure 3 .nil)))) rfl ?_
 refine LP rfl rfl rfl (xfa fa55_0 rfl) ?_
 refine LX rfl rfl rfl (xld sc28 rfl (cl_bk (Le.bk hl2 hb1) rfl)) trivial ?_
 refine LP rfl rfl rfl (xneq rfl rfl) ?_
 refine LP rfl rfl rfl (xas rfl) ?_
 refine LZ ?_
 refine F_seq ?_
 refine W_cond rfl (fun c2 => ?_) (fun c2 => ?_)
 · -- c2 yes
  try simp only [Bool.not_eq_true', Bool.not_eq_false', decide_eq_true_eq, decide_eq_false_iff_not] at c2
  refine W_seq ?_
  refine W_reg (.pure 0 (.one 1 (.pure 2 .nil))) rfl ?_
  refine LP rfl rfl rfl (xfa fa55_0 rfl) ?_
  refine LX rfl rfl rfl (xld sc28 rfl (cl_bk (Le.bk hl2 hb1) rfl)) trivial ?_
  refine LP rfl rfl rfl (xas rfl) ?_
  refine LZ ?_
  refine F_seq ?_
  refine W_ret ?_
  refine F_ret_block ?_
  refine F_ret_then ?_
  have hE : foundE c fe fi = fe := by unfold foundE; rw [if_pos (by omega)]
  exact F_endR (rs := [.tmp 4]) rfl (.tmp rfl .nil) rfl ⟨_, rfl, .inl ⟨by rw [hE]; omega, (by rw [hE]; rfl), (hl1.trans hl2)⟩⟩
 · -- c2 no
  try simp only [Bool.not_eq_true', Bool.not_eq_false', decide_eq_true_eq, decide_eq_false_iff_not] at c2
  refine W_seq ?_
  refine W_reg (.pure 0 (.one 1 (.pure 2 (.pure 3 (.pure 4 (.one 5 (.pure 6 (.pure 7 (.pure 8 .nil))))))))) rfl ?_
  refine LP rfl rfl rfl (xfa fa55_1 rfl) ?_
  refine LX rfl rfl rfl (xld sc2 rfl (cl_bk (Le.bk hl2 hb1) rfl)) trivial ?_
  refine LP rfl rfl rfl (xlss rfl rfl) ?_
  refine LP rfl rfl rfl (xmv rfl) ?_
  refine L_split (t := 18) rfl (fun c3 => ?_) (fun c3 => ?_)
  · -- c3 yes
   replace c3 := of_decide_eq_true c3
   refine LN rfl rfl rfl ?_
   refine LNo rfl rfl rfl trivial ?_
   refine LN rfl rfl rfl ?_
   refine LP rfl rfl rfl (xpk1 rfl rfl) ?_
   refine LP rfl rfl rfl (xas rfl) ?_
   refine LZ ?_
   refine F_seq ?_
   refine W_if rfl ?_
   refine W_seq ?_
   refine W_reg (.pure 0 .nil) rfl ?_
   refine LP rfl rfl rfl (xas rfl) ?_
   refine LZ ?_
   refine F_seq ?_
   refine W_ret ?_
   refine F_ret_block ?_
   refine F_ret_then ?_
   have hE : foundE c fe fi = 1 := by unfold foundE; rw [if_neg (by omega), if_pos (by omega)]
   exact F_endR (rs := [.tmp 4]) rfl (.tmp rfl .nil) rfl ⟨_, rfl, .inl ⟨by rw [hE]; omega, (by rw [hE]; rfl), (hl1.trans hl2)⟩⟩
  · -- c3 no
   replace c3 := of_decide_eq_false c3
   refine LP rfl rfl rfl (xfa fa55_1 rfl) ?_
   refine LX rfl rfl rfl (xld sc2 rfl (cl_bk (Le.bk hl2 hb1) rfl)) trivial ?_
   refine LP rfl rfl rfl (xgtr rfl rfl) ?_
   refine LP rfl rfl rfl (xpk0 rfl rfl) ?_
   refine LP rfl rfl rfl (xas rfl) ?_
   refine LZ ?_
   refine F_seq ?_
   refine W_cond rfl (fun c5 => ?_) (fun c5 => ?_)
   · -- c5 yes
    replace c5 := of_decide_eq_true c5
    refine W_seq ?_
    refine W_reg (.pure 0 .nil) rfl ?_
    refine LP rfl rfl rfl (xas rfl) ?_
    refine LZ ?_
    refine F_seq ?_
    refine W_ret ?_
    refine F_ret_block ?_
    refine F_ret_then ?_
    have hE : foundE c fe fi = 1 := by unfold foundE; rw [if_neg (by omega), if_pos (by omega)]
    exact F_endR (rs := [.tmp 4]) rfl (.tmp rfl .nil) rfl ⟨_, rfl, .inl ⟨by rw [hE]; omega, (by rw [hE]; rfl), (hl1.trans hl2)⟩⟩
   · -- c5 no
    replace c5 := of_decide_eq_false c5
    refine W_seq ?_
    refine W_draw (.pure 0 (.still 1 (.pure 2 (.pure 3 (.pure 4 (.still 5 (.pure 6 (.pure 7 .nil)))))))) (Le w2) hfol (by kernel_rfl) (pkt (pkb (pkt pkB))) (Le.drew _) ?_
    refine LP rfl rfl rfl (xfa fa55_1 rfl) ?_
    refine LS rfl rfl rfl (fun w' hw' => (xld sc2 rfl (cl_bk (Le.bk (hl2.trans hw') hb1) rfl))) ?_
    refine LP rfl rfl rfl (xmv rfl) ?_
    refine LP rfl rfl rfl (xnc rfl) ?_
    refine LP rfl rfl rfl (xfa fa116_7 rfl) ?_
    refine LS rfl rfl rfl (fun w' hw' => (xld sc2 rfl (cl_bk (Le.bk ((hl1.trans hl2).trans hw') hb) rfl))) ?_
    refine LP rfl rfl rfl (xlss rfl rfl) ?_
    refine LP rfl rfl rfl (xas rfl) ?_
    refine LZ ?_
    refine F_seq ?_
    refine W_cond rfl (fun c6 => ?_) (fun c6 => ?_)
    · -- c6 yes
     replace c6 := of_decide_eq_true c6
     refine W_seq ?_
     refine W_reg (.pure 0 .nil) rfl ?_
     refine LP rfl rfl rfl (xas rfl) ?_
     refine LZ ?_
     refine F_seq ?_
     refine W_ret ?_
     refine F_ret_block ?_
     refine F_ret_then ?_
     have hE : foundE c fe fi = 250 := by unfold foundE; rw [if_neg (by omega), if_neg (by omega), if_pos (by omega)]
     exact F_endR (rs := [.tmp 4]) rfl (.tmp rfl .nil) rfl ⟨_, rfl, .inl ⟨by rw [hE]; omega, (by rw [hE]; rfl), (hl1.trans (hl2.trans (Le.drew w2)))⟩⟩
    · -- c6 no
     replace c6 := of_decide_eq_false c6
     refine W_skip ?_
     refine F_block ?_
     refine F_seq ?_
     refine W_seq ?_
     refine W_reg (.pure 0 (.pure 1 (.one 2 (.pure 3 (.pure 4 (.one 5 .nil)))))) rfl ?_
     refine LP rfl rfl rfl (xmv rfl) ?_
     refine LP rfl rfl rfl (xfa fa55_1 rfl) ?_
     refine LX rfl rfl rfl (xld sc2 rfl (cl_bk (Le.bk (hl2.trans (Le.drew w2)) hb1) rfl)) trivial ?_
     refine LP rfl rfl rfl (xnc rfl) ?_
     refine LP rfl rfl rfl (xfa fa116_7 rfl) ?_
     refine LU rfl rfl (xsb sz2 (Le.bk (hl1.trans (hl2.trans (Le.drew w2))) hb) rfl rfl (int_cells _ _) rfl rfl (al_cons rfl al_nil)) ?_
     rintro w3 ⟨hq1, hb2⟩
     dsimp only [put] at hb2
     have hk1 := Lx.rdx2 hq1 hcc.rd rfl (dr_in hbS dr_nil) (Le.rdx (hl1.trans (hl2.trans (Le.drew w2))) hcc)
     have hk2 := Lx.rdx2 hq1 hca.rd rfl (dr_in hbS dr_nil) (Le.rdx (hl1.trans (hl2.trans (Le.drew w2))) hca)
     have hk3 := Lx.rdx2 hq1 hcr.rd rfl (dr_in hbS dr_nil) (Le.rdx (hl1.trans (hl2.trans (Le.drew w2))) hcr)
     have hk4 := Lx.rdx2 hq1 hcw.rd rfl (dr_in hbS dr_nil) (Le.rdx (hl1.trans (hl2.trans (Le.drew w2))) hcw)
     have hk5 := Lx.rdx2 hq1 hcl.rd rfl (dr_in hbS dr_nil) (Le.rdx (hl1.trans (hl2.trans (Le.drew w2))) hcl)
     have hk6 := hq1.bk (ni_new hb1z (Nat.lt_of_lt_of_le (bk_lt hb) (Nat.le_refl _)) ni_nil) (Le.bk (hl2.trans (Le.drew w2)) hb1)
     refine ⟨trivial, ?_⟩
     refine LZ ?_
     refine F_seq ?_
     refine W_seq ?_
     refine W_reg (.pure 0 .nil) rfl ?_
     refine LP rfl rfl rfl (xas rfl) ?_
     refine LZ ?_
     refine F_seq ?_
     refine W_ret ?_
     have lx1 : Lx [b] w w3 := (hq1.drop (Lx.trans (Lx.trans (Lx.trans (Lx.refl _ _) hl1.lx) hl2.lx) (Le.drew w2).lx) (dr_in (by simp) dr_nil))
     have hE : foundE c fe fi = 0 := by unfold foundE; rw [if_neg (by omega), if_neg (by omega), if_neg (by omega)]
     exact F_endR (rs := [.tmp 4]) rfl (.tmp rfl .nil) rfl ⟨_, rfl, .inr ⟨hE, rfl, lx1, ⟨_, _, _, _, _, hb2, hk1, hk2, hk3, hk4, hk5⟩⟩⟩
theorem r_found {S : List Nat} {b : Nat} {c : Cli} {fe fi : Int} {vp : Value} {fp : List KPair} {w : World} (hc : Cl S w 118 b c) (hok : c.ok) (hbS : b ∈ S) (hS : ∀ i ∈ S, i < w.heap.size) (hfp : RdE w.heap PairE vp fp) :
    Fn Try.prog 75 #[.pointer (some ⟨b, 0, none⟩), (.agg #[.int .i64 fe, .int .i64 fi, vp])] w fun v w' => (foundE c fe fi ≠ 0 ∧ v = .int .i64 (foundE c fe fi) ∧ Le w w') ∨ (foundE c fe fi = 0 ∧ v = .int .i64 0 ∧ Lx [b] w w' ∧ Cl S w' 118 b (foundC c fi)) := by
 refine Fn.enter 30 [(0, _), (1, _)] Try.func75 rfl rfl rfl rfl ?_
 obtain ⟨vc, va, vr, vw, vl, hb, hcc, hca, hcr, hcw, hcl⟩ := id hc
 have hr1 := hok.r1
 have hr2 := hok.r2
 have hq1 := hok.q1
 have hq2 := hok.q2
 have hw1 := hok.w1
 have hw2 := hok.w2
 have ht1 := hok.t1
 have ht2 := hok.t2
 obtain ⟨hzc, hza, hzr, hzw⟩ := hok.sm
 have hzl := hok.lv
 refine W_seq ?_
 refine W_reg (.one 0 (.pure 1 .nil)) rfl ?_
 refine LT rfl rfl rfl (xbox rfl) ?_
 rintro _ w1 ⟨b1, rfl, hl1, hb1, hb1z⟩
 refine ⟨trivial, ?_⟩
 refine LP rfl rfl rfl (xas rfl) ?_
 refine LZ ?_
 refine F_seq ?_
 refine W_seq ?_
 refine W_seq ?_
 refine W_reg (.pure 0 (.one 1 (.pure 2 .nil))) rfl ?_
 refine LP rfl rfl rfl (xfa fa55_0 rfl) ?_
 refine LX rfl rfl rfl (xld sc28 rfl (cl_bk hb1 rfl)) trivial ?_
 refine LP rfl rfl rfl (xneq rfl rfl) ?_
 refine LZ ?_
 refine F_seq ?_
 refine W_cond rfl (fun c1 => ?_) (fun c1 => ?_)
 · -- c1 yes
  try simp only [Bool.not_eq_true', Bool.not_eq_false', decide_eq_true_eq, decide_eq_false_iff_not] at c1
  refine W_seq ?_
  refine W_reg (.pure 0 (.one 1 (.pure 2 .nil))) rfl ?_
  refine LP rfl rfl rfl (xfa fa55_0 rfl) ?_
  refine LX rfl rfl rfl (xld sc28 rfl (cl_bk hb1 rfl)) trivial ?_
  refine LP rfl rfl rfl (xas rfl) ?_
  refine LZ ?_
  refine F_seq ?_
  refine W_ret ?_
  refine F_ret_then ?_
  have hE : foundE c fe fi = fe := by unfold foundE; rw [if_pos (by omega)]
  exact F_endR (rs := [.tmp 4]) rfl (.tmp rfl .nil) rfl ⟨_, rfl, .inl ⟨by rw [hE]; omega, (by rw [hE]; rfl), hl1⟩⟩
 · -- c1 no
  try simp only [Bool.not_eq_true', Bool.not_eq_false', decide_eq_true_eq, decide_eq_false_iff_not] at c1
  refine W_skip ?_
  refine F_seq ?_
  refine W_seq ?_
  refine W_seq ?_
  refine W_reg (.pure 0 (.one 1 (.pure 2 (.pure 3 (.pure 4 (.one 5 (.pure 6 (.pure 7 .nil)))))))) rfl ?_
  refine LP rfl rfl rfl (xfa fa55_1 rfl) ?_
  refine LX rfl rfl rfl (xld sc2 rfl (cl_bk hb1 rfl)) trivial ?_
  refine LP rfl rfl rfl (xlss rfl rfl) ?_
  refine LP rfl rfl rfl (xmv rfl) ?_
  refine L_split (t := 13) rfl (fun c2 => ?_) (fun c2 => ?_)
  · -- c2 yes
   replace c2 := of_decide_eq_true c2
   refine LN rfl rfl rfl ?_
   refine LNo rfl rfl rfl trivial ?_
   refine LN rfl rfl rfl ?_
   refine LP rfl rfl rfl (xpk1 rfl rfl) ?_
   refine LZ ?_
   refine F_seq ?_
   refine W_if rfl ?_
   refine W_seq ?_
   refine W_reg (.pure 0 .nil) rfl ?_
   refine LP rfl rfl rfl (xas rfl) ?_
   refine LZ ?_
   refine F_seq ?_
   refine W_ret ?_
   refine F_ret_then ?_
   have hE : foundE c fe fi = 1 := by unfold foundE; rw [if_neg (by omega), if_pos (by omega)]
   exact F_endR (rs := [.tmp 4]) rfl (.tmp rfl .nil) rfl ⟨_, rfl, .inl ⟨by rw [hE]; omega, (by rw [hE]; rfl), hl1⟩⟩
  · -- c2 no
   replace c2 := of_decide_eq_false c2
   refine LP rfl rfl rfl (xfa fa55_1 rfl) ?_
   refine LX rfl rfl rfl (xld sc2 rfl (cl_bk hb1 rfl)) trivial ?_
   refine LP rfl rfl rfl (xgtr rfl rfl) ?_
   refine LP rfl rfl rfl (xpk0 rfl rfl) ?_
   refine LZ ?_
   refine F_seq ?_
   refine W_cond rfl (fun c4 => ?_) (fun c4 => ?_)
   · -- c4 yes
    replace c4 := of_decide_eq_true c4
    refine W_seq ?_
    refine W_reg (.pure 0 .nil) rfl ?_
    refine LP rfl rfl rfl (xas rfl) ?_
    refine LZ ?_
    refine F_seq ?_
    refine W_ret ?_
    refine F_ret_then ?_
    have hE : foundE c fe fi = 1 := by unfold foundE; rw [if_neg (by omega), if_pos (by omega)]
    exact F_endR (rs := [.tmp 4]) rfl (.tmp rfl .nil) rfl ⟨_, rfl, .inl ⟨by rw [hE]; omega, (by rw [hE]; rfl), hl1⟩⟩
   · -- c4 no
    replace c4 := of_decide_eq_false c4
    refine W_skip ?_
    refine F_seq ?_
    refine W_seq ?_
    refine W_seq ?_
    refine W_draw (.pure 0 (.still 1 (.pure 2 (.pure 3 (.pure 4 (.still 5 (.pure 6 .nil))))))) (Le w1) hfol (by kernel_rfl) (pkt (pkt pkB)) (Le.drew _) ?_
    refine LP rfl rfl rfl (xfa fa55_1 rfl) ?_
    refine LS rfl rfl rfl (fun w' hw' => (xld sc2 rfl (cl_bk (Le.bk hw' hb1) rfl))) ?_
    refine LP rfl rfl rfl (xmv rfl) ?_
    refine LP rfl rfl rfl (xnc rfl) ?_
    refine LP rfl rfl rfl (xfa fa118_7 rfl) ?_
    refine LS rfl rfl rfl (fun w' hw' => (xld sc2 rfl (cl_bk (Le.bk (hl1.trans hw') hb) rfl))) ?_
    refine LP rfl rfl rfl (xlss rfl rfl) ?_
    refine LZ ?_
    refine F_seq ?_
    refine W_cond rfl (fun c5 => ?_) (fun c5 => ?_)
    · -- c5 yes
     replace c5 := of_decide_eq_true c5
     refine W_seq ?_
     refine W_reg (.pure 0 .nil) rfl ?_
     refine LP rfl rfl rfl (xas rfl) ?_
     refine LZ ?_
     refine F_seq ?_
     refine W_ret ?_
     refine F_ret_then ?_
     have hE : foundE c fe fi = 250 := by unfold foundE; rw [if_neg (by omega), if_neg (by omega), if_pos (by omega)]
     exact F_endR (rs := [.tmp 4]) rfl (.tmp rfl .nil) rfl ⟨_, rfl, .inl ⟨by rw [hE]; omega, (by rw [hE]; rfl), (hl1.trans (Le.drew w1))⟩⟩
    · -- c5 no
     replace c5 := of_decide_eq_false c5
     refine W_skip ?_
     refine F_seq ?_
     refine W_seq ?_
     refine W_reg (.pure 0 (.pure 1 (.one 2 (.pure 3 (.pure 4 (.one 5 .nil)))))) rfl ?_
     refine LP rfl rfl rfl (xmv rfl) ?_
     refine LP rfl rfl rfl (xfa fa55_1 rfl) ?_
     refine LX rfl rfl rfl (xld sc2 rfl (cl_bk (Le.bk (Le.drew w1) hb1) rfl)) trivial ?_
     refine LP rfl rfl rfl (xnc rfl) ?_
     refine LP rfl rfl rfl (xfa fa118_7 rfl) ?_
     refine LU rfl rfl (xsb sz2 (Le.bk (hl1.trans (Le.drew w1)) hb) rfl rfl (int_cells _ _) rfl rfl (al_cons rfl al_nil)) ?_
     rintro w2 ⟨hq1, hb2⟩
     dsimp only [put] at hb2
     have hk1 := Lx.rdx2 hq1 hcc.rd rfl (dr_in hbS dr_nil) (Le.rdx (hl1.trans (Le.drew w1)) hcc)
     have hk2 := Lx.rdx2 hq1 hca.rd rfl (dr_in hbS dr_nil) (Le.rdx (hl1.trans (Le.drew w1)) hca)
     have hk3 := Lx.rdx2 hq1 hcr.rd rfl (dr_in hbS dr_nil) (Le.rdx (hl1.trans (Le.drew w1)) hcr)
     have hk4 := Lx.rdx2 hq1 hcw.rd rfl (dr_in hbS dr_nil) (Le.rdx (hl1.trans (Le.drew w1)) hcw)
     have hk5 := Lx.rdx2 hq1 hcl.rd rfl (dr_in hbS dr_nil) (Le.rdx (hl1.trans (Le.drew w1)) hcl)
     have hk6 := hq1.bk (ni_new hb1z (Nat.lt_of_lt_of_le (bk_lt hb) (Nat.le_refl _)) ni_nil) (Le.bk (Le.drew w1) hb1)
     refine ⟨trivial, ?_⟩
     refine LZ ?_
     refine F_seq ?_
     refine W_seq ?_
     refine W_reg (.pure 0 .nil) rfl ?_
     refine LP rfl rfl rfl (xas rfl) ?_
     refine LZ ?_
     refine F_seq ?_
     refine W_ret ?_
     have lx1 : Lx [b] w w2 := (hq1.drop (Lx.trans (Lx.trans (Lx.refl _ _) hl1.lx) (Le.drew w1).lx) (dr_in (by simp) dr_nil))
     have hE : foundE c fe fi = 0 := by unfold foundE; rw [if_neg (by omega), if_neg (by omega), if_neg (by omega)]
     exact F_endR (rs := [.tmp 4]) rfl (.tmp rfl .nil) rfl ⟨_, rfl, .inr ⟨hE, rfl, lx1, ⟨_, _, _, _, _, hb2, hk1, hk2, hk3, hk4, hk5⟩⟩⟩
theorem c_pending {S : List Nat} {b : Nat} {c : Cli} {w : World} (hc : Cl S w 116 b c) (hok : c.ok) (hbS : b ∈ S) (hS : ∀ i ∈ S, i < w.heap.size) :
    Fn Try.prog 19 #[.pointer (some ⟨b, 0, none⟩)] w fun v w' => (c.pend = false ∧ v = .tuple #[(.agg #[.int .i64 zTxn.se, .int .i64 zTxn.rq, .slice none 0 0, .slice none 0 0, .slice none 0 0, .slice none 0 0]), .bool false] ∧ Le w w') ∨ (c.pend = true ∧ ∃ xc xa xr xw, v = .tuple #[(.agg #[.int .i64 c.t.se, .int .i64 c.t.rq, xc, xa, xr, xw]), .bool true] ∧ Le w w' ∧ RdX S w'.heap ByteE xc c.t.code ∧ RdX S w'.heap IntE xa c.t.args ∧ RdX S w'.heap KeyE xr c.t.reads ∧ RdX S w'.heap KeyE xw c.t.writes) := by
 refine Fn.enter 19 [(0, _)] Try.func19 rfl rfl rfl rfl ?_
 obtain ⟨vc, va, vr, vw, vl, hb, hcc, hca, hcr, hcw, hcl⟩ := id hc
 have hr1 := hok.r1
 have hr2 := hok.r2
 have hq1 := hok.q1
 have hq2 := hok.q2
 have hw1 := hok.w1
 have hw2 := hok.w2
 have ht1 := hok.t1
 have ht2 := hok.t2
 obtain ⟨hzc, hza, hzr, hzw⟩ := hok.sm
 have hzl := hok.lv
 refine W_seq ?_
 refine W_reg (.one 0 (.pure 1 .nil)) rfl ?_
 refine LT rfl rfl rfl (xal zr26) ?_
 rintro _ w1 ⟨b1, rfl, hl1, hb1, hb1z⟩
 refine ⟨trivial, ?_⟩
 refine LP rfl rfl rfl (xas rfl) ?_
 refine LZ ?_
 refine F_seq ?_
 refine W_seq ?_
 refine W_seq ?_
 refine W_reg (.pure 0 (.one 1 (.pure 2 (.pure 3 (.pure 4 (.pure 5 (.one 6 (.pure 7 (.pure 8 .nil))))))))) rfl ?_
 refine LP rfl rfl rfl (xmv rfl) ?_
 refine LF rfl rfl rfl has60 rfl (c_none (Le.clx hl1 hc) hok hbS (lt_le hS hl1.size)) ?_
 rintro _ w2 ⟨rfl, hl2⟩
 refine ⟨trivial, ?_⟩
 refine LP rfl rfl rfl (xmv rfl) ?_
 refine LP rfl rfl rfl (xmv rfl) ?_
 refine LP rfl rfl rfl (xnc rfl) ?_
 refine LP rfl rfl rfl (xfa fa116_3 rfl) ?_
 refine LX rfl rfl rfl (xld sc4 rfl (cl_bk (Le.bk (hl1.trans hl2) hb) rfl)) trivial ?_
 refine LP rfl rfl rfl (xnot rfl) ?_
 refine LP rfl rfl rfl (xpk0 rfl rfl) ?_
 refine LZ ?_
 refine F_seq ?_
 refine W_cond rfl (fun c1 => ?_) (fun c1 => ?_)
 · -- c1 yes
  try simp only [Bool.not_eq_true', Bool.not_eq_false', decide_eq_true_eq, decide_eq_false_iff_not] at c1
  have hp : c.pend = false := by simpa using c1
  refine W_seq ?_
  refine W_reg (.pure 0 (.one 1 (.pure 2 .nil))) rfl ?_
  refine LP rfl rfl rfl (xbd rfl (bd26_ ())) ?_
  refine LU rfl rfl (xsb sz26 (Le.bk hl2 hb1) rfl rfl (agg_cells _) rfl rfl (al_cons rfl (al_cons rfl (al_cons rfl (al_cons rfl (al_cons rfl (al_cons rfl al_nil))))))) ?_
  rintro w3 ⟨hq1, hb2⟩
  dsimp only [put] at hb2
  refine ⟨trivial, ?_⟩
  refine LP rfl rfl rfl (xas rfl) ?_
  refine LZ ?_
  refine F_seq ?_
  refine W_ret ?_
  refine F_ret_then ?_
  have le1 : Le w w3 := (hq1.le (hl1.trans hl2) (inc (Nat.le_refl _) hb1z inn))
  exact F_endR (rs := [.cell 2 26, .tmp 3]) rfl (.cell rfl (run_ld0 ag26 hb2 rfl) (.tmp rfl .nil)) rfl ⟨_, rfl, .inl ⟨hp, rfl, le1⟩⟩
 · -- c1 no
  try simp only [Bool.not_eq_true', Bool.not_eq_false', decide_eq_true_eq, decide_eq_false_iff_not] at c1
  have hp : c.pend = true := by simpa using c1
  refine W_skip ?_
  refine F_seq ?_
  refine W_seq ?_
  refine W_reg (.pure 0 (.pure 1 (.pure 2 (.one 3 (.one 4 (.one 5 (.pure 6 .nil))))))) rfl ?_
  refine LP rfl rfl rfl (xmv rfl) ?_
  refine LP rfl rfl rfl (xnc rfl) ?_
  refine LP rfl rfl rfl (xfa fa116_4 rfl) ?_
  refine LX rfl rfl rfl (xlb6 ag26 (Le.bk (hl1.trans hl2) hb) rfl rfl rfl rfl rfl rfl rfl) trivial ?_
  refine LF rfl rfl rfl has66 rfl (c_cloneT (t := ⟨c.t.se, c.t.rq, c.t.code, c.t.args, c.t.reads, c.t.writes⟩) (RdE.le (hl1.trans hl2) hcc.rd) (RdE.le (hl1.trans hl2) hca.rd) (RdE.le (hl1.trans hl2) hcr.rd) (RdE.le (hl1.trans hl2) hcw.rd) ⟨(by first | omega | (simp only [List.length_append, List.length_take, List.length_drop, List.length_cons, List.length_nil]; omega)), (by first | omega | (simp only [List.length_append, List.length_take, List.length_drop, List.length_cons, List.length_nil]; omega)), (by first | omega | (simp only [List.length_append, List.length_take, List.length_drop, List.length_cons, List.length_nil]; omega)), (by first | omega | (simp only [List.length_append, List.length_take, List.length_drop, List.length_cons, List.length_nil]; omega))⟩) ?_
  rintro _ w4 ⟨xc1, xa1, xr1, xw1, rfl, hl3, ho1, ho2, ho3, ho4, hof1⟩
  refine ⟨trivial, ?_⟩
  refine LU rfl rfl (xsb sz26 (Le.bk (hl2.trans hl3) hb1) rfl rfl (agg_cells _) rfl rfl (al_cons rfl (al_cons rfl (al_cons ho1.rd.sh.one (al_cons ho2.rd.sh.one (al_cons ho3.rd.sh.one (al_cons ho4.rd.sh.one al_nil))))))) ?_
  rintro w5 ⟨hq2, hb3⟩
  dsimp only [put] at hb3
  have hk1 := hq2.ow (Off.cons (Ow.ne_new ho1 (Nat.lt_of_lt_of_le (bk_lt hb1) hl2.size)) Off.nil) ho1
  have hk2 := hq2.ow (Off.cons (Ow.ne_new ho2 (Nat.lt_of_lt_of_le (bk_lt hb1) hl2.size)) Off.nil) ho2
  have hk3 := hq2.ow (Off.cons (Ow.ne_new ho3 (Nat.lt_of_lt_of_le (bk_lt hb1) hl2.size)) Off.nil) ho3
  have hk4 := hq2.ow (Off.cons (Ow.ne_new ho4 (Nat.lt_of_lt_of_le (bk_lt hb1) hl2.size)) Off.nil) ho4
  refine ⟨trivial, ?_⟩
  refine LP rfl rfl rfl (xas rfl) ?_
  refine LZ ?_
  refine F_seq ?_
  refine W_ret ?_
  have le2 : Le w w5 := (hq2.le (hl1.trans (hl2.trans hl3)) (inc (Nat.le_refl _) hb1z inn))
  exact F_endR (rs := [.cell 2 26, .tmp 3]) rfl (.cell rfl (run_ld0 ag26 hb3 rfl) (.tmp rfl .nil)) rfl ⟨_, rfl, .inr ⟨hp, _, _, _, _, rfl, le2, (Ow.rdx hk1 (lt_le hS (Nat.le_trans hl1.size hl2.size))), (Ow.rdx hk2 (lt_le hS (Nat.le_trans hl1.size hl2.size))), (Ow.rdx hk3 (lt_le hS (Nat.le_trans hl1.size hl2.size))), (Ow.rdx hk4 (lt_le hS (Nat.le_trans hl1.size hl2.size)))⟩⟩
theorem r_pending {S : List Nat} {b : Nat} {c : Cli} {w : World} (hc : Cl S w 118 b c) (hok : c.ok) (hbS : b ∈ S) (hS : ∀ i ∈ S, i < w.heap.size) :
    Fn Try.prog 20 #[.pointer (some ⟨b, 0, none⟩)] w fun v w' => (c.pend = false ∧ v = .tuple #[(.agg #[.int .i64 zTxn.se, .int .i64 zTxn.rq, .slice none 0 0, .slice none 0 0, .slice none 0 0, .slice none 0 0]), .bool false] ∧ Le w w') ∨ (c.pend = true ∧ ∃ xc xa xr xw, v = .tuple #[(.agg #[.int .i64 c.t.se, .int .i64 c.t.rq, xc, xa, xr, xw]), .bool true] ∧ Le w w' ∧ RdX S w'.heap ByteE xc c.t.code ∧ RdX S w'.heap IntE xa c.t.args ∧ RdX S w'.heap KeyE xr c.t.reads ∧ RdX S w'.heap KeyE xw c.t.writes) := by
 refine Fn.enter 14 [(0, _)] Try.func20 rfl rfl rfl rfl ?_
 obtain ⟨vc, va, vr, vw, vl, hb, hcc, hca, hcr, hcw, hcl⟩ := id hc
 have hr1 := hok.r1
 have hr2 := hok.r2
 have hq1 := hok.q1
 have hq2 := hok.q2
 have hw1 := hok.w1
 have hw2 := hok.w2
 have ht1 := hok.t1
 have ht2 := hok.t2
 obtain ⟨hzc, hza, hzr, hzw⟩ := hok.sm
 have hzl := hok.lv
 refine W_seq ?_
 refine W_reg (.one 0 (.pure 1 .nil)) rfl ?_
 refine LT rfl rfl rfl (xal zr26) ?_
 rintro _ w1 ⟨b1, rfl, hl1, hb1, hb1z⟩
 refine ⟨trivial, ?_⟩
 refine LP rfl rfl rfl (xas rfl) ?_
 refine LZ ?_
 refine F_seq ?_
 refine W_seq ?_
 refine W_seq ?_
 refine W_reg (.pure 0 (.pure 1 (.pure 2 (.one 3 (.pure 4 .nil))))) rfl ?_
 refine LP rfl rfl rfl (xmv rfl) ?_
 refine LP rfl rfl rfl (xnc rfl) ?_
 refine LP rfl rfl rfl (xfa fa118_3 rfl) ?_
 refine LX rfl rfl rfl (xld sc4 rfl (cl_bk (Le.bk hl1 hb) rfl)) trivial ?_
 refine LP rfl rfl rfl (xnot rfl) ?_
 refine LZ ?_
 refine F_seq ?_
 refine W_cond rfl (fun c1 => ?_) (fun c1 => ?_)
 · -- c1 yes
  try simp only [Bool.not_eq_true', Bool.not_eq_false', decide_eq_true_eq, decide_eq_false_iff_not] at c1
  have hp : c.pend = false := by simpa using c1
  refine W_seq ?_
  refine W_reg (.pure 0 (.one 1 (.pure 2 .nil))) rfl ?_
  refine LP rfl rfl rfl (xbd rfl (bd26_ ())) ?_
  refine LU rfl rfl (xsb sz26 hb1 rfl rfl (agg_cells _) rfl rfl (al_cons rfl (al_cons rfl (al_cons rfl (al_cons rfl (al_cons rfl (al_cons rfl al_nil))))))) ?_
  rintro w2 ⟨hq1, hb2⟩
  dsimp only [put] at hb2
  refine ⟨trivial, ?_⟩
  refine LP rfl rfl rfl (xas rfl) ?_
  refine LZ ?_
  refine F_seq ?_
  refine W_ret ?_
  refine F_ret_then ?_
  have le1 : Le w w2 := (hq1.le hl1 (inc (Nat.le_refl _) hb1z inn))
  exact F_endR (rs := [.cell 2 26, .tmp 3]) rfl (.cell rfl (run_ld0 ag26 hb2 rfl) (.tmp rfl .nil)) rfl ⟨_, rfl, .inl ⟨hp, rfl, le1⟩⟩
 · -- c1 no
  try simp only [Bool.not_eq_true', Bool.not_eq_false', decide_eq_true_eq, decide_eq_false_iff_not] at c1
  have hp : c.pend = true := by simpa using c1
  refine W_skip ?_
  refine F_seq ?_
  refine W_seq ?_
  refine W_reg (.pure 0 (.pure 1 (.pure 2 (.one 3 (.one 4 (.pure 5 .nil)))))) rfl ?_
  refine LP rfl rfl rfl (xmv rfl) ?_
  refine LP rfl rfl rfl (xnc rfl) ?_
  refine LP rfl rfl rfl (xfa fa118_4 rfl) ?_
  refine LX rfl rfl rfl (xlb6 ag26 (Le.bk hl1 hb) rfl rfl rfl rfl rfl rfl rfl) trivial ?_
  refine LU rfl rfl (xsb sz26 hb1 rfl rfl (agg_cells _) rfl rfl (al_cons rfl (al_cons rfl (al_cons hcc.rd.sh.one (al_cons hca.rd.sh.one (al_cons hcr.rd.sh.one (al_cons hcw.rd.sh.one al_nil))))))) ?_
  rintro w3 ⟨hq2, hb3⟩
  dsimp only [put] at hb3
  refine ⟨trivial, ?_⟩
  refine LP rfl rfl rfl (xas rfl) ?_
  refine LZ ?_
  refine F_seq ?_
  refine W_ret ?_
  have le2 : Le w w3 := (hq2.le hl1 (inc (Nat.le_refl _) hb1z inn))
  exact F_endR (rs := [.cell 2 26, .tmp 3]) rfl (.cell rfl (run_ld0 ag26 hb3 rfl) (.tmp rfl .nil)) rfl ⟨_, rfl, .inr ⟨hp, _, _, _, _, rfl, le2, (Le.rdx le2 hcc), (Le.rdx le2 hca), (Le.rdx le2 hcr), (Le.rdx le2 hcw)⟩⟩
theorem c_last {S : List Nat} {b : Nat} {c : Cli} {w : World} (hc : Cl S w 116 b c) (hok : c.ok) (hbS : b ∈ S) (hS : ∀ i ∈ S, i < w.heap.size) :
    Fn Try.prog 77 #[.pointer (some ⟨b, 0, none⟩)] w fun v w' => (c.any = false ∧ v = .tuple #[(.agg #[.int .i64 zRes.e, .slice none 0 0, .int .i64 zRes.slot, .int .i64 zRes.place]), .bool false] ∧ Le w w') ∨ (c.any = true ∧ ∃ xl, v = .tuple #[(.agg #[.int .i64 c.last.e, xl, .int .i64 c.last.slot, .int .i64 c.last.place]), .bool true] ∧ Le w w' ∧ RdX S w'.heap IntE xl c.last.vals) := by
 refine Fn.enter 24 [(0, _)] Try.func77 rfl rfl rfl rfl ?_
 obtain ⟨vc, va, vr, vw, vl, hb, hcc, hca, hcr, hcw, hcl⟩ := id hc
 have hr1 := hok.r1
 have hr2 := hok.r2
 have hq1 := hok.q1
 have hq2 := hok.q2
 have hw1 := hok.w1
 have hw2 := hok.w2
 have ht1 := hok.t1
 have ht2 := hok.t2
 obtain ⟨hzc, hza, hzr, hzw⟩ := hok.sm
 have hzl := hok.lv
 refine W_seq ?_
 refine W_reg (.one 0 (.pure 1 .nil)) rfl ?_
 refine LT rfl rfl rfl (xal zr50) ?_
 rintro _ w1 ⟨b1, rfl, hl1, hb1, hb1z⟩
 refine ⟨trivial, ?_⟩
 refine LP rfl rfl rfl (xas rfl) ?_
 refine LZ ?_
 refine F_seq ?_
 refine W_seq ?_
 refine W_seq ?_
 refine W_reg (.pure 0 (.one 1 (.pure 2 (.pure 3 (.pure 4 (.pure 5 (.one 6 (.pure 7 (.pure 8 .nil))))))))) rfl ?_
 refine LP rfl rfl rfl (xmv rfl) ?_
 refine LF rfl rfl rfl has60 rfl (c_none (Le.clx hl1 hc) hok hbS (lt_le hS hl1.size)) ?_
 rintro _ w2 ⟨rfl, hl2⟩
 refine ⟨trivial, ?_⟩
 refine LP rfl rfl rfl (xmv rfl) ?_
 refine LP rfl rfl rfl (xmv rfl) ?_
 refine LP rfl rfl rfl (xnc rfl) ?_
 refine LP rfl rfl rfl (xfa fa116_8 rfl) ?_
 refine LX rfl rfl rfl (xld sc4 rfl (cl_bk (Le.bk (hl1.trans hl2) hb) rfl)) trivial ?_
 refine LP rfl rfl rfl (xnot rfl) ?_
 refine LP rfl rfl rfl (xpk0 rfl rfl) ?_
 refine LZ ?_
 refine F_seq ?_
 refine W_cond rfl (fun c1 => ?_) (fun c1 => ?_)
 · -- c1 yes
  try simp only [Bool.not_eq_true', Bool.not_eq_false', decide_eq_true_eq, decide_eq_false_iff_not] at c1
  have hp : c.any = false := by simpa using c1
  refine W_seq ?_
  refine W_reg (.pure 0 (.one 1 (.pure 2 .nil))) rfl ?_
  refine LP rfl rfl rfl (xbd rfl (bd50_ ())) ?_
  refine LU rfl rfl (xsb sz50 (Le.bk hl2 hb1) rfl rfl (agg_cells _) rfl rfl (al_cons rfl (al_cons rfl (al_cons rfl (al_cons rfl al_nil))))) ?_
  rintro w3 ⟨hq1, hb2⟩
  dsimp only [put] at hb2
  refine ⟨trivial, ?_⟩
  refine LP rfl rfl rfl (xas rfl) ?_
  refine LZ ?_
  refine F_seq ?_
  refine W_ret ?_
  refine F_ret_then ?_
  have le1 : Le w w3 := (hq1.le (hl1.trans hl2) (inc (Nat.le_refl _) hb1z inn))
  exact F_endR (rs := [.cell 2 50, .tmp 3]) rfl (.cell rfl (run_ld0 ag50 hb2 rfl) (.tmp rfl .nil)) rfl ⟨_, rfl, .inl ⟨hp, rfl, le1⟩⟩
 · -- c1 no
  try simp only [Bool.not_eq_true', Bool.not_eq_false', decide_eq_true_eq, decide_eq_false_iff_not] at c1
  have hp : c.any = true := by simpa using c1
  refine W_skip ?_
  refine F_seq ?_
  refine W_seq ?_
  refine W_reg (.pure 0 (.pure 1 (.pure 2 (.one 3 (.one 4 (.one 5 .nil)))))) rfl ?_
  refine LP rfl rfl rfl (xmv rfl) ?_
  refine LP rfl rfl rfl (xnc rfl) ?_
  refine LP rfl rfl rfl (xfa fa116_9 rfl) ?_
  refine LX rfl rfl rfl (xlb4 ag50 (Le.bk (hl1.trans hl2) hb) rfl rfl rfl rfl rfl) trivial ?_
  refine LT rfl rfl rfl (xal zr50) ?_
  rintro _ w4 ⟨b2, rfl, hl3, hb3, hb3z⟩
  refine ⟨trivial, ?_⟩
  refine LU rfl rfl (xsb sz50 hb3 rfl rfl (agg_cells _) rfl rfl (al_cons rfl (al_cons hcl.rd.sh.one (al_cons rfl (al_cons rfl al_nil))))) ?_
  rintro w5 ⟨hq2, hb4⟩
  dsimp only [put] at hb4
  refine ⟨trivial, ?_⟩
  refine LZ ?_
  refine F_seq ?_
  refine W_seq ?_
  refine W_reg (.pure 0 (.one 1 (.one 2 (.pure 3 (.one 4 .nil))))) rfl ?_
  refine LP rfl rfl rfl (xfa fa50_1 rfl) ?_
  refine LX rfl rfl rfl (xld sc23 rfl (cl_bk hb4 rfl)) trivial ?_
  have le2 : Le w w5 := (hq2.le (hl1.trans (hl2.trans hl3)) (inc (Nat.le_trans hl1.size hl2.size) hb3z inn))
  refine LF rfl rfl rfl has110 rfl (cloneI (RdE.le le2 hcl.rd) (by first | omega | (simp only [List.length_append, List.length_take, List.length_drop, List.length_cons, List.length_nil]; omega))) ?_
  rintro v2 w6 ⟨hl4, ho1⟩
  refine ⟨trivial, ?_⟩
  refine LP rfl rfl rfl (xfa fa50_1 rfl) ?_
  refine LU rfl rfl (xsb sz23 (Le.bk hl4 hb4) rfl rfl ho1.rd.sh.cells rfl rfl (al_cons ho1.rd.sh.one al_nil)) ?_
  rintro w7 ⟨hq3, hb5⟩
  dsimp only [put] at hb5
  have hk1 := hq3.ow (Off.cons (Ow.ne_new ho1 (Nat.lt_of_lt_of_le (bk_lt hb3) hq2.size)) Off.nil) ho1
  refine ⟨trivial, ?_⟩
  refine LZ ?_
  refine F_seq ?_
  refine W_seq ?_
  refine W_reg (.one 0 (.one 1 (.pure 2 .nil))) rfl ?_
  refine LX rfl rfl rfl (xlb4 ag50 hb5 rfl rfl rfl rfl rfl) trivial ?_
  have le3 : Le w1 w5 := (hq2.le (hl2.trans hl3) (inc hl2.size hb3z inn))
  have le4 : Le w1 w7 := (hq3.le (le3.trans hl4) (inc hl2.size hb3z inn))
  refine LU rfl rfl (xsb sz50 (Le.bk le4 hb1) rfl rfl (agg_cells _) rfl rfl (al_cons rfl (al_cons hk1.rd.sh.one (al_cons rfl (al_cons rfl al_nil))))) ?_
  rintro w8 ⟨hq4, hb6⟩
  dsimp only [put] at hb6
  have hk2 := hq4.bk (ni_new hb3z (Nat.lt_of_lt_of_le (bk_lt hb1) hl2.size) ni_nil) hb5
  have hk3 := hq4.ow (Off.cons (Ow.ne_new ho1 (Nat.lt_of_lt_of_le (bk_lt hb1) (Nat.le_trans hl2.size (Nat.le_trans hl3.size hq2.size)))) Off.nil) hk1
  refine ⟨trivial, ?_⟩
  refine LP rfl rfl rfl (xas rfl) ?_
  refine LZ ?_
  refine F_seq ?_
  refine W_ret ?_
  have le5 : Le w w7 := (hq3.le (le2.trans hl4) (inc (Nat.le_trans hl1.size hl2.size) hb3z inn))
  have le6 : Le w w8 := (hq4.le le5 (inc (Nat.le_refl _) hb1z inn))
  exact F_endR (rs := [.cell 2 50, .tmp 3]) rfl (.cell rfl (run_ld0 ag50 hb6 rfl) (.tmp rfl .nil)) rfl ⟨_, rfl, .inr ⟨hp, _, rfl, le6, (Ow.rdx hk3 (lt_le hS (Nat.le_trans hl1.size (Nat.le_trans hl2.size (Nat.le_trans hl3.size hq2.size)))))⟩⟩
theorem c_cloneS {S : List Nat} {b : Nat} {c : Cli} {w : World} (hc : Cl S w 116 b c) (hok : c.ok) (hbS : b ∈ S) (hS : ∀ i ∈ S, i < w.heap.size) :
    Fn Try.prog 76 #[.pointer (some ⟨b, 0, none⟩)] w fun v w' => ∃ b' wm, v = .pointer (some ⟨b', 0, none⟩) ∧ Le w wm ∧ b' = wm.heap.size ∧ Le wm w' ∧ Cl ([b'] ++ S) w' 116 b' c := by
 refine Fn.enter 9 [(0, _)] Try.func76 rfl rfl rfl rfl ?_
 obtain ⟨vc, va, vr, vw, vl, hb, hcc, hca, hcr, hcw, hcl⟩ := id hc
 have hr1 := hok.r1
 have hr2 := hok.r2
 have hq1 := hok.q1
 have hq2 := hok.q2
 have hw1 := hok.w1
 have hw2 := hok.w2
 have ht1 := hok.t1
 have ht2 := hok.t2
 obtain ⟨hzc, hza, hzr, hzw⟩ := hok.sm
 have hzl := hok.lv
 refine W_seq ?_
 refine W_reg (.pure 0 .nil) rfl ?_
 refine LP rfl rfl rfl (xas rfl) ?_
 refine LZ ?_
 refine F_seq ?_
 refine W_seq ?_
 refine W_seq ?_
 refine W_reg (.pure 0 (.one 1 .nil)) rfl ?_
 refine LP rfl rfl rfl (xmv rfl) ?_
 refine LF rfl rfl rfl has60 rfl (c_none hc hok hbS (lt_le hS (Nat.le_refl _))) ?_
 rintro _ w1 ⟨rfl, hl1⟩
 refine ⟨trivial, ?_⟩
 refine LZ ?_
 refine F_seq ?_
 refine W_else rfl ?_
 refine W_skip ?_
 refine F_seq ?_
 refine W_seq ?_
 refine W_reg (.pure 0 (.pure 1 (.one 2 (.one 3 (.one 4 .nil))))) rfl ?_
 refine LP rfl rfl rfl (xmv rfl) ?_
 refine LP rfl rfl rfl (xnc rfl) ?_
 refine LX rfl rfl rfl (xlb18 ag116 (Le.bk hl1 hb) rfl rfl rfl rfl rfl rfl rfl rfl rfl rfl rfl rfl rfl rfl rfl rfl rfl rfl rfl) trivial ?_
 refine LT rfl rfl rfl (xal zr116) ?_
 rintro _ w2 ⟨b1, rfl, hl2, hb1, hb1z⟩
 refine ⟨trivial, ?_⟩
 refine LU rfl rfl (xsb sz116 hb1 rfl rfl (agg_cells _) rfl rfl (al_cons rfl (al_cons rfl (al_cons rfl (al_cons rfl (al_cons rfl (al_cons rfl (al_cons hcc.rd.sh.one (al_cons hca.rd.sh.one (al_cons hcr.rd.sh.one (al_cons hcw.rd.sh.one (al_cons rfl (al_cons rfl (al_cons rfl (al_cons rfl (al_cons rfl (al_cons hcl.rd.sh.one (al_cons rfl (al_cons rfl al_nil))))))))))))))))))) ?_
 rintro w3 ⟨hq1, hb2⟩
 dsimp only [put] at hb2
 refine ⟨trivial, ?_⟩
 refine LZ ?_
 refine F_seq ?_
 refine W_seq ?_
 refine W_reg (.pure 0 .nil) rfl ?_
 refine LP rfl rfl rfl (xas rfl) ?_
 refine LZ ?_
 refine F_seq ?_
 refine W_ret ?_
 have le1 : Le w1 w3 := (hq1.le hl2 (inc (Nat.le_refl _) hb1z inn))
 have le2 : Le w w3 := (hq1.le (hl1.trans hl2) (inc hl1.size hb1z inn))
 have hge : w.heap.size ≤ b1 := hb1z ▸ hl1.size
 exact F_endR (rs := [.tmp 2]) rfl (.tmp rfl .nil) rfl ⟨_, rfl, _, _, rfl, hl1, hb1z, le1, ⟨_, _, _, _, _, hb2, RdX.more (Le.rdx le2 hcc) hcc.rd rfl (inc hge rfl inn), RdX.more (Le.rdx le2 hca) hca.rd rfl (inc hge rfl inn), RdX.more (Le.rdx le2 hcr) hcr.rd rfl (inc hge rfl inn), RdX.more (Le.rdx le2 hcw) hcw.rd rfl (inc hge rfl inn), RdX.more (Le.rdx le2 hcl) hcl.rd rfl (inc hge rfl inn)⟩⟩
end Go.Proofs.Ythmhbonhagjnnaa
