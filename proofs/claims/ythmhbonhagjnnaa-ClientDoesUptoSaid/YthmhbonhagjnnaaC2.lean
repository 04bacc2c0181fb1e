/- Sessions: what each tells. -/
import Derived.Test.YthmhbonhagjnnaaProg
import Derived.Test.YthmhbonhagjnnaaC1
import Derived.KernelRfl
namespace Go.Proofs.Ythmhbonhagjnnaa
open Go.RowKit
set_option linter.unusedVariables false
set_option linter.unusedSimpArgs false
theorem pt27 : Try.prog.underlying 27 = some (.pointer (Try.prog.pointee 27)) := by kernel_rfl
theorem fa116_1 : FA Try.prog 116 1 1 := fun _ _ _ => by kernel_rfl
theorem fa118_1 : FA Try.prog 118 1 1 := fun _ _ _ => by kernel_rfl
theorem zr36 : Zr Try.prog 36 [.int .i64 0, .int .i64 0, .int .i64 0, .slice none 0 0, .slice none 0 0, .slice none 0 0, .slice none 0 0, .bool false, .slice none 0 0, .int .i64 0] := Zr.of (z := .agg #[.int .i64 0, .int .i64 0, .int .i64 0, .slice none 0 0, .slice none 0 0, .slice none 0 0, .slice none 0 0, .bool false, .slice none 0 0, .int .i64 0]) (fun _ => by kernel_rfl) rfl
theorem fa116_6 : FA Try.prog 116 6 11 := fun _ _ _ => by kernel_rfl
theorem fa116_4 : FA Try.prog 116 4 4 := fun _ _ _ => by kernel_rfl
theorem bd36_0iiissss_1iiissss : ∀ (x0_0 : Int) (x1_0 : Int) (x1_1 : Int) (Ax1_2 : Option Addr) (nx1_2 cx1_2 : Nat) (Ax1_3 : Option Addr) (nx1_3 cx1_3 : Nat) (Ax1_4 : Option Addr) (nx1_4 cx1_4 : Nat) (Ax1_5 : Option Addr) (nx1_5 cx1_5 : Nat), BD Try.prog 36 [(0, .int .i64 x0_0), (1, .agg #[.int .i64 x1_0, .int .i64 x1_1, .slice Ax1_2 nx1_2 cx1_2, .slice Ax1_3 nx1_3 cx1_3, .slice Ax1_4 nx1_4 cx1_4, .slice Ax1_5 nx1_5 cx1_5])] #[.int .i64 x0_0, .int .i64 x1_0, .int .i64 x1_1, .slice Ax1_2 nx1_2 cx1_2, .slice Ax1_3 nx1_3 cx1_3, .slice Ax1_4 nx1_4 cx1_4, .slice Ax1_5 nx1_5 cx1_5, .bool false, .slice none 0 0, .int .i64 0] := fun _ _ _ _ _ _ _ _ _ _ _ _ _ _ _ => fun _ => by kernel_rfl
theorem sz36 : ∀ w, (sizeOf 36).run Try.prog w = .ok 10 w := fun _ => by kernel_rfl
theorem ag36 : Ag Try.prog 36 10 := ⟨fun _ => by kernel_rfl, fun _ => by kernel_rfl⟩
theorem has60 : Has Try.prog 60 Try.f60 := ⟨Try.func60, by kernel_rfl, rfl⟩
theorem fa116_7 : FA Try.prog 116 7 12 := fun _ _ _ => by kernel_rfl
theorem fa116_2 : FA Try.prog 116 2 2 := fun _ _ _ => by kernel_rfl
theorem bd116_0ii_1ii : ∀ (x0_0 : Int) (x1_0 : Int), BD Try.prog 116 [(0, .int .i64 x0_0), (1, .int .i64 x1_0)] #[.int .i64 x0_0, .int .i64 x1_0, .int .i64 0, .bool false, .int .i64 0, .int .i64 0, .slice none 0 0, .slice none 0 0, .slice none 0 0, .slice none 0 0, .int .i64 0, .int .i64 0, .int .i64 0, .bool false, .int .i64 0, .slice none 0 0, .int .i64 0, .int .i64 0] := fun _ _ => fun _ => by kernel_rfl
theorem bd118_0ii_1ii : ∀ (x0_0 : Int) (x1_0 : Int), BD Try.prog 118 [(0, .int .i64 x0_0), (1, .int .i64 x1_0)] #[.int .i64 x0_0, .int .i64 x1_0, .int .i64 0, .bool false, .int .i64 0, .int .i64 0, .slice none 0 0, .slice none 0 0, .slice none 0 0, .slice none 0 0, .int .i64 0, .int .i64 0, .int .i64 0, .bool false, .int .i64 0, .slice none 0 0, .int .i64 0, .int .i64 0] := fun _ _ => fun _ => by kernel_rfl
theorem c_none {S : List Nat} {b : Nat} {c : Cli} {w : World} (hc : Cl S w 116 b c) (hok : c.ok) (hbS : b ∈ S) (hS : ∀ i ∈ S, i < w.heap.size) :
    Fn Try.prog 60 #[.pointer (some ⟨b, 0, none⟩)] w fun v w' => v = .bool false ∧ Le w w' := by
 refine Fn.enter 12 [(0, _)] Try.func60 rfl rfl rfl rfl ?_
 obtain ⟨vc, va, vr, vw, vl, hb, hcc, hca, hcr, hcw, hcl⟩ := id hc
 have hr1 := hok.r1
 have hr2 := hok.r2
 have hq1 := hok.q1
 have hq2 := hok.q2
 have hw1 := hok.w1
 have hw2 := hok.w2
 have ht1 := hok.t1
 have ht2 := hok.t2
 obtain ⟨hzc, hza, hzr, hzw⟩ := hok.sm
 have hzl := hok.lv
 refine W_seq ?_
 refine W_reg (.pure 0 .nil) rfl ?_
 refine LP rfl rfl rfl (xas rfl) ?_
 refine LZ ?_
 refine F_seq ?_
 refine W_seq ?_
 refine W_reg (.pure 0 (.pure 1 (.pure 2 (.pure 3 (.pure 4 (.pure 5 (.one 6 (.pure 7 (.pure 8 (.pure 9 .nil)))))))))) rfl ?_
 refine LP rfl rfl rfl (xmv rfl) ?_
 refine LP rfl rfl rfl (xpn pt27 rfl rfl) ?_
 refine LP rfl rfl rfl (xmv rfl) ?_
 refine LP rfl rfl rfl (xmv rfl) ?_
 refine LP rfl rfl rfl (xnc rfl) ?_
 refine LP rfl rfl rfl (xfa fa116_1 rfl) ?_
 refine LX rfl rfl rfl (xld sc3 rfl (cl_bk hb rfl)) trivial ?_
 refine LP rfl rfl rfl (xeql rfl rfl) ?_
 refine LP rfl rfl rfl (xpk0 rfl rfl) ?_
 refine LP rfl rfl rfl (xas rfl) ?_
 refine LZ ?_
 refine F_seq ?_
 refine W_ret ?_
 exact F_end1 rfl rfl ⟨_, rfl, by rw [decide_eq_false (by omega)], (Le.refl _)⟩
theorem r_may {S : List Nat} {b : Nat} {c : Cli} {rep : Int} {w : World} (hc : Cl S w 118 b c) (hok : c.ok) (hbS : b ∈ S) (hS : ∀ i ∈ S, i < w.heap.size) :
    Fn Try.prog 63 #[.pointer (some ⟨b, 0, none⟩), .int .i64 rep] w fun v w' => v = .bool (decide (0 ≤ rep ∧ rep < c.reps)) ∧ Le w w' := by
 refine Fn.enter 15 [(0, _), (1, _)] Try.func63 rfl rfl rfl rfl ?_
 obtain ⟨vc, va, vr, vw, vl, hb, hcc, hca, hcr, hcw, hcl⟩ := id hc
 have hr1 := hok.r1
 have hr2 := hok.r2
 have hq1 := hok.q1
 have hq2 := hok.q2
 have hw1 := hok.w1
 have hw2 := hok.w2
 have ht1 := hok.t1
 have ht2 := hok.t2
 obtain ⟨hzc, hza, hzr, hzw⟩ := hok.sm
 have hzl := hok.lv
 refine W_seq ?_
 refine W_reg (.pure 0 .nil) rfl ?_
 refine LP rfl rfl rfl (xas rfl) ?_
 refine LZ ?_
 refine F_seq ?_
 refine W_seq ?_
 refine W_reg (.pure 0 (.pure 1 (.pure 2 (.pure 3 (.pure 4 (.pure 5 (.pure 6 (.one 7 (.pure 8 (.pure 9 (.pure 10 .nil))))))))))) rfl ?_
 refine LP rfl rfl rfl (xmv rfl) ?_
 refine LP rfl rfl rfl (xgeq rfl rfl) ?_
 refine LP rfl rfl rfl (xmv rfl) ?_
 refine L_split (t := 7) rfl (fun c1 => ?_) (fun c1 => ?_)
 · -- c1 yes
  replace c1 := of_decide_eq_true c1
  refine LP rfl rfl rfl (xmv rfl) ?_
  refine LP rfl rfl rfl (xmv rfl) ?_
  refine LP rfl rfl rfl (xnc rfl) ?_
  refine LP rfl rfl rfl (xfa fa118_1 rfl) ?_
  refine LX rfl rfl rfl (xld sc3 rfl (cl_bk hb rfl)) trivial ?_
  refine LP rfl rfl rfl (xlss rfl rfl) ?_
  refine LP rfl rfl rfl (xpk1 rfl rfl) ?_
  refine LP rfl rfl rfl (xas rfl) ?_
  refine LZ ?_
  refine F_seq ?_
  refine W_ret ?_
  exact F_end1 rfl rfl ⟨_, rfl, by first | (simp [*]; done) | (congr 1; simp; omega), (Le.refl _)⟩
 · -- c1 no
  replace c1 := of_decide_eq_false c1
  refine LN rfl rfl rfl ?_
  refine LN rfl rfl rfl ?_
  refine LN rfl rfl rfl ?_
  refine LN rfl rfl rfl ?_
  refine LNo rfl rfl rfl trivial ?_
  refine LN rfl rfl rfl ?_
  refine LP rfl rfl rfl (xpk0 rfl rfl) ?_
  refine LP rfl rfl rfl (xas rfl) ?_
  refine LZ ?_
  refine F_seq ?_
  refine W_ret ?_
  exact F_end1 rfl rfl ⟨_, rfl, by first | (simp [*]; done) | (congr 1; simp; omega), (Le.refl _)⟩
theorem c_ask {S : List Nat} {b : Nat} {c : Cli} {w : World} (hc : Cl S w 116 b c) (hok : c.ok) (hbS : b ∈ S) (hS : ∀ i ∈ S, i < w.heap.size) :
    Fn Try.prog 62 #[.pointer (some ⟨b, 0, none⟩)] w fun v w' => ∃ xc xa xr xw, v = (.agg #[.int .i64 c.turn, .int .i64 c.t.se, .int .i64 c.t.rq, xc, xa, xr, xw, .bool false, .slice none 0 0, .int .i64 0]) ∧ Le w w' ∧ Ow w' w 5 ByteE xc c.t.code ∧ Ow w' w 2 IntE xa c.t.args ∧ Ow w' w 40 KeyE xr c.t.reads ∧ Ow w' w 40 KeyE xw c.t.writes ∧ Off xc.ownBlock.toList xw := by
 refine Fn.enter 13 [(0, _)] Try.func62 rfl rfl rfl rfl ?_
 obtain ⟨vc, va, vr, vw, vl, hb, hcc, hca, hcr, hcw, hcl⟩ := id hc
 have hr1 := hok.r1
 have hr2 := hok.r2
 have hq1 := hok.q1
 have hq2 := hok.q2
 have hw1 := hok.w1
 have hw2 := hok.w2
 have ht1 := hok.t1
 have ht2 := hok.t2
 obtain ⟨hzc, hza, hzr, hzw⟩ := hok.sm
 have hzl := hok.lv
 refine W_seq ?_
 refine W_reg (.one 0 .nil) rfl ?_
 refine LT rfl rfl rfl (xal zr36) ?_
 rintro _ w1 ⟨b1, rfl, hl1, hb1, hb1z⟩
 refine ⟨trivial, ?_⟩
 refine LZ ?_
 refine F_seq ?_
 refine W_seq ?_
 refine W_draw (.pure 0 (.pure 1 (.pure 2 (.still 3 (.pure 4 (.pure 5 (.pure 6 (.still 7 (.one 8 (.pure 9 (.tail 10 .nil))))))))))) (Le w1) hfol (by kernel_rfl) (pkt pkB) (Le.drew _) ?_
 refine LP rfl rfl rfl (xmv rfl) ?_
 refine LP rfl rfl rfl (xnc rfl) ?_
 refine LP rfl rfl rfl (xfa fa116_6 rfl) ?_
 refine LS rfl rfl rfl (fun w' hw' => (xld sc3 rfl (cl_bk (Le.bk (hl1.trans hw') hb) rfl))) ?_
 refine LP rfl rfl rfl (xmv rfl) ?_
 refine LP rfl rfl rfl (xnc rfl) ?_
 refine LP rfl rfl rfl (xfa fa116_4 rfl) ?_
 refine LS rfl rfl rfl (fun w' hw' => (xlb6 ag26 (Le.bk (hl1.trans hw') hb) rfl rfl rfl rfl rfl rfl rfl)) ?_
 refine LF rfl rfl rfl has66 rfl (c_cloneT (t := ⟨c.t.se, c.t.rq, c.t.code, c.t.args, c.t.reads, c.t.writes⟩) (RdE.le (hl1.trans (Le.drew w1)) hcc.rd) (RdE.le (hl1.trans (Le.drew w1)) hca.rd) (RdE.le (hl1.trans (Le.drew w1)) hcr.rd) (RdE.le (hl1.trans (Le.drew w1)) hcw.rd) ⟨(by first | omega | (simp only [List.length_append, List.length_take, List.length_drop, List.length_cons, List.length_nil]; omega)), (by first | omega | (simp only [List.length_append, List.length_take, List.length_drop, List.length_cons, List.length_nil]; omega)), (by first | omega | (simp only [List.length_append, List.length_take, List.length_drop, List.length_cons, List.length_nil]; omega)), (by first | omega | (simp only [List.length_append, List.length_take, List.length_drop, List.length_cons, List.length_nil]; omega))⟩) ?_
 rintro _ w2 ⟨xc1, xa1, xr1, xw1, rfl, hl2, ho1, ho2, ho3, ho4, hof1⟩
 refine ⟨((Le.drew w1).trans hl2), ?_⟩
 obtain ⟨A1, cp1, hA1⟩ := ho1.rd.sh.form
 subst hA1
 obtain ⟨A2, cp2, hA2⟩ := ho2.rd.sh.form
 subst hA2
 obtain ⟨A3, cp3, hA3⟩ := ho3.rd.sh.form
 subst hA3
 obtain ⟨A4, cp4, hA4⟩ := ho4.rd.sh.form
 subst hA4
 refine LP rfl rfl rfl (xbd rfl (bd36_0iiissss_1iiissss c.turn c.t.se c.t.rq _ _ _ _ _ _ _ _ _ _ _ _)) ?_
 refine LUt rfl rfl (xsb sz36 (Le.bk ((Le.drew w1).trans hl2) hb1) rfl rfl (agg_cells _) rfl rfl (al_cons rfl (al_cons rfl (al_cons rfl (al_cons ho1.rd.sh.one (al_cons ho2.rd.sh.one (al_cons ho3.rd.sh.one (al_cons ho4.rd.sh.one (al_cons rfl (al_cons rfl (al_cons rfl al_nil))))))))))) ?_
 rintro w3 ⟨hq1, hb2⟩
 dsimp only [put] at hb2
 have hk1 := hq1.ow (Off.cons (Ow.ne_new ho1 (Nat.lt_of_lt_of_le (bk_lt hb1) (Le.drew w1).size)) Off.nil) ho1
 have hk2 := hq1.ow (Off.cons (Ow.ne_new ho2 (Nat.lt_of_lt_of_le (bk_lt hb1) (Le.drew w1).size)) Off.nil) ho2
 have hk3 := hq1.ow (Off.cons (Ow.ne_new ho3 (Nat.lt_of_lt_of_le (bk_lt hb1) (Le.drew w1).size)) Off.nil) ho3
 have hk4 := hq1.ow (Off.cons (Ow.ne_new ho4 (Nat.lt_of_lt_of_le (bk_lt hb1) (Le.drew w1).size)) Off.nil) ho4
 refine LZ ?_
 refine F_seq ?_
 refine W_ret ?_
 have le1 : Le w w3 := (hq1.le (hl1.trans ((Le.drew w1).trans hl2)) (inc (Nat.le_refl _) hb1z inn))
 exact F_endR (rs := [.cell 2 36]) rfl (.cell rfl (run_ld0 ag36 hb2 rfl) .nil) rfl ⟨_, rfl, _, _, _, _, rfl, le1, (hk1).base (Nat.le_trans hl1.size (Le.drew w1).size), (hk2).base (Nat.le_trans hl1.size (Le.drew w1).size), (hk3).base (Nat.le_trans hl1.size (Le.drew w1).size), (hk4).base (Nat.le_trans hl1.size (Le.drew w1).size), hof1⟩
theorem c_token {S : List Nat} {b : Nat} {c : Cli} {w : World} (hc : Cl S w 116 b c) (hok : c.ok) (hbS : b ∈ S) (hS : ∀ i ∈ S, i < w.heap.size) :
    Fn Try.prog 59 #[.pointer (some ⟨b, 0, none⟩)] w fun v w' => v = .int .i64 c.tok ∧ Le w w' := by
 refine Fn.enter 9 [(0, _)] Try.func59 rfl rfl rfl rfl ?_
 obtain ⟨vc, va, vr, vw, vl, hb, hcc, hca, hcr, hcw, hcl⟩ := id hc
 have hr1 := hok.r1
 have hr2 := hok.r2
 have hq1 := hok.q1
 have hq2 := hok.q2
 have hw1 := hok.w1
 have hw2 := hok.w2
 have ht1 := hok.t1
 have ht2 := hok.t2
 obtain ⟨hzc, hza, hzr, hzw⟩ := hok.sm
 have hzl := hok.lv
 refine W_seq ?_
 refine W_reg (.pure 0 .nil) rfl ?_
 refine LP rfl rfl rfl (xas rfl) ?_
 refine LZ ?_
 refine F_seq ?_
 refine W_seq ?_
 refine W_seq ?_
 refine W_reg (.pure 0 (.one 1 .nil)) rfl ?_
 refine LP rfl rfl rfl (xmv rfl) ?_
 refine LF rfl rfl rfl has60 rfl (c_none hc hok hbS (lt_le hS (Nat.le_refl _))) ?_
 rintro _ w1 ⟨rfl, hl1⟩
 refine ⟨trivial, ?_⟩
 refine LZ ?_
 refine F_seq ?_
 refine W_else rfl ?_
 refine W_skip ?_
 refine F_seq ?_
 refine W_seq ?_
 refine W_reg (.pure 0 (.pure 1 (.pure 2 (.one 3 (.pure 4 .nil))))) rfl ?_
 refine LP rfl rfl rfl (xmv rfl) ?_
 refine LP rfl rfl rfl (xnc rfl) ?_
 refine LP rfl rfl rfl (xfa fa116_7 rfl) ?_
 refine LX rfl rfl rfl (xld sc2 rfl (cl_bk (Le.bk hl1 hb) rfl)) trivial ?_
 refine LP rfl rfl rfl (xas rfl) ?_
 refine LZ ?_
 refine F_seq ?_
 refine W_ret ?_
 exact F_end1 rfl rfl ⟨_, rfl, rfl, hl1⟩
theorem c_request {S : List Nat} {b : Nat} {c : Cli} {w : World} (hc : Cl S w 116 b c) (hok : c.ok) (hbS : b ∈ S) (hS : ∀ i ∈ S, i < w.heap.size) :
    Fn Try.prog 78 #[.pointer (some ⟨b, 0, none⟩)] w fun v w' => v = .int .i64 c.rq ∧ Le w w' := by
 refine Fn.enter 9 [(0, _)] Try.func78 rfl rfl rfl rfl ?_
 obtain ⟨vc, va, vr, vw, vl, hb, hcc, hca, hcr, hcw, hcl⟩ := id hc
 have hr1 := hok.r1
 have hr2 := hok.r2
 have hq1 := hok.q1
 have hq2 := hok.q2
 have hw1 := hok.w1
 have hw2 := hok.w2
 have ht1 := hok.t1
 have ht2 := hok.t2
 obtain ⟨hzc, hza, hzr, hzw⟩ := hok.sm
 have hzl := hok.lv
 refine W_seq ?_
 refine W_reg (.pure 0 .nil) rfl ?_
 refine LP rfl rfl rfl (xas rfl) ?_
 refine LZ ?_
 refine F_seq ?_
 refine W_seq ?_
 refine W_seq ?_
 refine W_reg (.pure 0 (.one 1 .nil)) rfl ?_
 refine LP rfl rfl rfl (xmv rfl) ?_
 refine LF rfl rfl rfl has60 rfl (c_none hc hok hbS (lt_le hS (Nat.le_refl _))) ?_
 rintro _ w1 ⟨rfl, hl1⟩
 refine ⟨trivial, ?_⟩
 refine LZ ?_
 refine F_seq ?_
 refine W_else rfl ?_
 refine W_skip ?_
 refine F_seq ?_
 refine W_seq ?_
 refine W_reg (.pure 0 (.pure 1 (.pure 2 (.one 3 (.pure 4 .nil))))) rfl ?_
 refine LP rfl rfl rfl (xmv rfl) ?_
 refine LP rfl rfl rfl (xnc rfl) ?_
 refine LP rfl rfl rfl (xfa fa116_2 rfl) ?_
 refine LX rfl rfl rfl (xld sc2 rfl (cl_bk (Le.bk hl1 hb) rfl)) trivial ?_
 refine LP rfl rfl rfl (xas rfl) ?_
 refine LZ ?_
 refine F_seq ?_
 refine W_ret ?_
 exact F_end1 rfl rfl ⟨_, rfl, rfl, hl1⟩
theorem c_new {se reps : Int} {w : World} :
    Fn Try.prog 14 #[.int .i64 se, .int .i64 reps] w fun v w' => (newE se reps ≠ 0 ∧ v = .tuple #[.pointer none, .int .i64 1] ∧ Le w w') ∨ (newE se reps = 0 ∧ ∃ b wm, v = .tuple #[.pointer (some ⟨b, 0, none⟩), .int .i64 0] ∧ Le w wm ∧ b = wm.heap.size ∧ Le wm w' ∧ ∀ S, ClA S w' 116 b (newC se reps) (.slice none 0 0) (.slice none 0 0) (.slice none 0 0) (.slice none 0 0) (.slice none 0 0)) := by
 refine Fn.enter 24 [(0, _), (1, _)] Try.func14 rfl rfl rfl rfl ?_
 refine W_seq ?_
 refine W_reg (.pure 0 (.pure 1 .nil)) rfl ?_
 refine LP rfl rfl rfl (xas rfl) ?_
 refine LP rfl rfl rfl (xas rfl) ?_
 refine LZ ?_
 refine F_seq ?_
 refine W_seq ?_
 refine W_seq ?_
 refine W_reg (.pure 0 (.pure 1 (.pure 2 (.pure 3 (.pure 4 (.pure 5 (.pure 6 (.pure 7 (.pure 8 (.pure 9 (.pure 10 (.pure 11 (.pure 12 (.pure 13 .nil)))))))))))))) rfl ?_
 refine LP rfl rfl rfl (xmv rfl) ?_
 refine LP rfl rfl rfl (xlss rfl rfl) ?_
 refine LP rfl rfl rfl (xmv rfl) ?_
 refine L_split (t := 8) rfl (fun c1 => ?_) (fun c1 => ?_)
 · -- c1 yes
  replace c1 := of_decide_eq_true c1
  refine LN rfl rfl rfl ?_
  refine LN rfl rfl rfl ?_
  refine LP rfl rfl rfl (xpk1 rfl rfl) ?_
  refine LP rfl rfl rfl (xmv rfl) ?_
  refine LN rfl rfl rfl ?_
  refine LN rfl rfl rfl ?_
  refine LP rfl rfl rfl (xpk1 rfl rfl) ?_
  refine LP rfl rfl rfl (xmv rfl) ?_
  refine LN rfl rfl rfl ?_
  refine LN rfl rfl rfl ?_
  refine LP rfl rfl rfl (xpk1 rfl rfl) ?_
  refine LZ ?_
  refine F_seq ?_
  refine W_if rfl ?_
  refine W_seq ?_
  refine W_reg (.pure 0 (.pure 1 .nil)) rfl ?_
  refine LP rfl rfl rfl (xas rfl) ?_
  refine LP rfl rfl rfl (xas rfl) ?_
  refine LZ ?_
  refine F_seq ?_
  refine W_ret ?_
  refine F_ret_then ?_
  exact F_endR (rs := [.tmp 4, .tmp 5]) rfl (.tmp rfl (.tmp rfl .nil)) rfl ⟨_, rfl, .inl ⟨by simp only [newE]; rw [if_pos (by omega)]; decide, rfl, (Le.refl _)⟩⟩
 · -- c1 no
  replace c1 := of_decide_eq_false c1
  refine LP rfl rfl rfl (xmv rfl) ?_
  refine LP rfl rfl rfl (xgtr rfl rfl) ?_
  refine LP rfl rfl rfl (xpk0 rfl rfl) ?_
  refine LP rfl rfl rfl (xmv rfl) ?_
  refine L_split (t := 12) rfl (fun c3 => ?_) (fun c3 => ?_)
  · -- c3 yes
   replace c3 := of_decide_eq_true c3
   refine LN rfl rfl rfl ?_
   refine LN rfl rfl rfl ?_
   refine LP rfl rfl rfl (xpk1 rfl rfl) ?_
   refine LP rfl rfl rfl (xmv rfl) ?_
   refine LN rfl rfl rfl ?_
   refine LN rfl rfl rfl ?_
   refine LP rfl rfl rfl (xpk1 rfl rfl) ?_
   refine LZ ?_
   refine F_seq ?_
   refine W_if rfl ?_
   refine W_seq ?_
   refine W_reg (.pure 0 (.pure 1 .nil)) rfl ?_
   refine LP rfl rfl rfl (xas rfl) ?_
   refine LP rfl rfl rfl (xas rfl) ?_
   refine LZ ?_
   refine F_seq ?_
   refine W_ret ?_
   refine F_ret_then ?_
   exact F_endR (rs := [.tmp 4, .tmp 5]) rfl (.tmp rfl (.tmp rfl .nil)) rfl ⟨_, rfl, .inl ⟨by simp only [newE]; rw [if_pos (by omega)]; decide, rfl, (Le.refl _)⟩⟩
  · -- c3 no
   replace c3 := of_decide_eq_false c3
   refine LP rfl rfl rfl (xmv rfl) ?_
   refine LP rfl rfl rfl (xlss rfl rfl) ?_
   refine LP rfl rfl rfl (xpk0 rfl rfl) ?_
   refine LP rfl rfl rfl (xmv rfl) ?_
   refine L_split (t := 16) rfl (fun c5 => ?_) (fun c5 => ?_)
   · -- c5 yes
    replace c5 := of_decide_eq_true c5
    refine LN rfl rfl rfl ?_
    refine LN rfl rfl rfl ?_
    refine LP rfl rfl rfl (xpk1 rfl rfl) ?_
    refine LZ ?_
    refine F_seq ?_
    refine W_if rfl ?_
    refine W_seq ?_
    refine W_reg (.pure 0 (.pure 1 .nil)) rfl ?_
    refine LP rfl rfl rfl (xas rfl) ?_
    refine LP rfl rfl rfl (xas rfl) ?_
    refine LZ ?_
    refine F_seq ?_
    refine W_ret ?_
    refine F_ret_then ?_
    exact F_endR (rs := [.tmp 4, .tmp 5]) rfl (.tmp rfl (.tmp rfl .nil)) rfl ⟨_, rfl, .inl ⟨by simp only [newE]; rw [if_pos (by omega)]; decide, rfl, (Le.refl _)⟩⟩
   · -- c5 no
    replace c5 := of_decide_eq_false c5
    refine LP rfl rfl rfl (xmv rfl) ?_
    refine LP rfl rfl rfl (xgtr rfl rfl) ?_
    refine LP rfl rfl rfl (xpk0 rfl rfl) ?_
    refine LZ ?_
    refine F_seq ?_
    refine W_cond rfl (fun c7 => ?_) (fun c7 => ?_)
    · -- c7 yes
     replace c7 := of_decide_eq_true c7
     refine W_seq ?_
     refine W_reg (.pure 0 (.pure 1 .nil)) rfl ?_
     refine LP rfl rfl rfl (xas rfl) ?_
     refine LP rfl rfl rfl (xas rfl) ?_
     refine LZ ?_
     refine F_seq ?_
     refine W_ret ?_
     refine F_ret_then ?_
     exact F_endR (rs := [.tmp 4, .tmp 5]) rfl (.tmp rfl (.tmp rfl .nil)) rfl ⟨_, rfl, .inl ⟨by simp only [newE]; rw [if_pos (by omega)]; decide, rfl, (Le.refl _)⟩⟩
    · -- c7 no
     replace c7 := of_decide_eq_false c7
     refine W_skip ?_
     refine F_seq ?_
     refine W_seq ?_
     refine W_reg (.pure 0 (.pure 1 (.pure 2 (.one 3 (.pure 4 (.pure 5 .nil)))))) rfl ?_
     refine LP rfl rfl rfl (xmv rfl) ?_
     refine LP rfl rfl rfl (xmv rfl) ?_
     refine LP rfl rfl rfl (xbd rfl (bd116_0ii_1ii se reps)) ?_
     refine LT rfl rfl rfl (xbox rfl) ?_
     rintro _ w1 ⟨b1, rfl, hl1, hb1, hb1z⟩
     refine ⟨trivial, ?_⟩
     refine LP rfl rfl rfl (xas rfl) ?_
     refine LP rfl rfl rfl (xas rfl) ?_
     refine LZ ?_
     refine F_seq ?_
     refine W_ret ?_
     have e : newE se reps = 0 := by simp only [newE]; rw [if_neg (by omega)]
     exact F_endR (rs := [.tmp 4, .tmp 5]) rfl (.tmp rfl (.tmp rfl .nil)) rfl ⟨_, rfl, .inr ⟨e, _, _, rfl, (Le.refl _), hb1z, hl1, fun S => ⟨hb1, RdX.nil _ _ _, RdX.nil _ _ _, RdX.nil _ _ _, RdX.nil _ _ _, RdX.nil _ _ _⟩⟩⟩
theorem r_new {se reps : Int} {w : World} :
    Fn Try.prog 15 #[.int .i64 se, .int .i64 reps] w fun v w' => (newE se reps ≠ 0 ∧ v = .tuple #[.pointer none, .int .i64 1] ∧ Le w w') ∨ (newE se reps = 0 ∧ ∃ b wm, v = .tuple #[.pointer (some ⟨b, 0, none⟩), .int .i64 0] ∧ Le w wm ∧ b = wm.heap.size ∧ Le wm w' ∧ ∀ S, ClA S w' 118 b (newC se reps) (.slice none 0 0) (.slice none 0 0) (.slice none 0 0) (.slice none 0 0) (.slice none 0 0)) := by
 refine Fn.enter 24 [(0, _), (1, _)] Try.func15 rfl rfl rfl rfl ?_
 refine W_seq ?_
 refine W_reg (.pure 0 (.pure 1 .nil)) rfl ?_
 refine LP rfl rfl rfl (xas rfl) ?_
 refine LP rfl rfl rfl (xas rfl) ?_
 refine LZ ?_
 refine F_seq ?_
 refine W_seq ?_
 refine W_seq ?_
 refine W_reg (.pure 0 (.pure 1 (.pure 2 (.pure 3 (.pure 4 (.pure 5 (.pure 6 (.pure 7 (.pure 8 (.pure 9 (.pure 10 (.pure 11 (.pure 12 (.pure 13 .nil)))))))))))))) rfl ?_
 refine LP rfl rfl rfl (xmv rfl) ?_
 refine LP rfl rfl rfl (xlss rfl rfl) ?_
 refine LP rfl rfl rfl (xmv rfl) ?_
 refine L_split (t := 8) rfl (fun c1 => ?_) (fun c1 => ?_)
 · -- c1 yes
  replace c1 := of_decide_eq_true c1
  refine LN rfl rfl rfl ?_
  refine LN rfl rfl rfl ?_
  refine LP rfl rfl rfl (xpk1 rfl rfl) ?_
  refine LP rfl rfl rfl (xmv rfl) ?_
  refine LN rfl rfl rfl ?_
  refine LN rfl rfl rfl ?_
  refine LP rfl rfl rfl (xpk1 rfl rfl) ?_
  refine LP rfl rfl rfl (xmv rfl) ?_
  refine LN rfl rfl rfl ?_
  refine LN rfl rfl rfl ?_
  refine LP rfl rfl rfl (xpk1 rfl rfl) ?_
  refine LZ ?_
  refine F_seq ?_
  refine W_if rfl ?_
  refine W_seq ?_
  refine W_reg (.pure 0 (.pure 1 .nil)) rfl ?_
  refine LP rfl rfl rfl (xas rfl) ?_
  refine LP rfl rfl rfl (xas rfl) ?_
  refine LZ ?_
  refine F_seq ?_
  refine W_ret ?_
  refine F_ret_then ?_
  exact F_endR (rs := [.tmp 4, .tmp 5]) rfl (.tmp rfl (.tmp rfl .nil)) rfl ⟨_, rfl, .inl ⟨by simp only [newE]; rw [if_pos (by omega)]; decide, rfl, (Le.refl _)⟩⟩
 · -- c1 no
  replace c1 := of_decide_eq_false c1
  refine LP rfl rfl rfl (xmv rfl) ?_
  refine LP rfl rfl rfl (xgtr rfl rfl) ?_
  refine LP rfl rfl rfl (xpk0 rfl rfl) ?_
  refine LP rfl rfl rfl (xmv rfl) ?_
  refine L_split (t := 12) rfl (fun c3 => ?_) (fun c3 => ?_)
  · -- c3 yes
   replace c3 := of_decide_eq_true c3
   refine LN rfl rfl rfl ?_
   refine LN rfl rfl rfl ?_
   refine LP rfl rfl rfl (xpk1 rfl rfl) ?_
   refine LP rfl rfl rfl (xmv rfl) ?_
   refine LN rfl rfl rfl ?_
   refine LN rfl rfl rfl ?_
   refine LP rfl rfl rfl (xpk1 rfl rfl) ?_
   refine LZ ?_
   refine F_seq ?_
   refine W_if rfl ?_
   refine W_seq ?_
   refine W_reg (.pure 0 (.pure 1 .nil)) rfl ?_
   refine LP rfl rfl rfl (xas rfl) ?_
   refine LP rfl rfl rfl (xas rfl) ?_
   refine LZ ?_
   refine F_seq ?_
   refine W_ret ?_
   refine F_ret_then ?_
   exact F_endR (rs := [.tmp 4, .tmp 5]) rfl (.tmp rfl (.tmp rfl .nil)) rfl ⟨_, rfl, .inl ⟨by simp only [newE]; rw [if_pos (by omega)]; decide, rfl, (Le.refl _)⟩⟩
  · -- c3 no
   replace c3 := of_decide_eq_false c3
   refine LP rfl rfl rfl (xmv rfl) ?_
   refine LP rfl rfl rfl (xlss rfl rfl) ?_
   refine LP rfl rfl rfl (xpk0 rfl rfl) ?_
   refine LP rfl rfl rfl (xmv rfl) ?_
   refine L_split (t := 16) rfl (fun c5 => ?_) (fun c5 => ?_)
   · -- c5 yes
    replace c5 := of_decide_eq_true c5
    refine LN rfl rfl rfl ?_
    refine LN rfl rfl rfl ?_
    refine LP rfl rfl rfl (xpk1 rfl rfl) ?_
    refine LZ ?_
    refine F_seq ?_
    refine W_if rfl ?_
    refine W_seq ?_
    refine W_reg (.pure 0 (.pure 1 .nil)) rfl ?_
    refine LP rfl rfl rfl (xas rfl) ?_
    refine LP rfl rfl rfl (xas rfl) ?_
    refine LZ ?_
    refine F_seq ?_
    refine W_ret ?_
    refine F_ret_then ?_
    exact F_endR (rs := [.tmp 4, .tmp 5]) rfl (.tmp rfl (.tmp rfl .nil)) rfl ⟨_, rfl, .inl ⟨by simp only [newE]; rw [if_pos (by omega)]; decide, rfl, (Le.refl _)⟩⟩
   · -- c5 no
    replace c5 := of_decide_eq_false c5
    refine LP rfl rfl rfl (xmv rfl) ?_
    refine LP rfl rfl rfl (xgtr rfl rfl) ?_
    refine LP rfl rfl rfl (xpk0 rfl rfl) ?_
    refine LZ ?_
    refine F_seq ?_
    refine W_cond rfl (fun c7 => ?_) (fun c7 => ?_)
    · -- c7 yes
     replace c7 := of_decide_eq_true c7
     refine W_seq ?_
     refine W_reg (.pure 0 (.pure 1 .nil)) rfl ?_
     refine LP rfl rfl rfl (xas rfl) ?_
     refine LP rfl rfl rfl (xas rfl) ?_
     refine LZ ?_
     refine F_seq ?_
     refine W_ret ?_
     refine F_ret_then ?_
     exact F_endR (rs := [.tmp 4, .tmp 5]) rfl (.tmp rfl (.tmp rfl .nil)) rfl ⟨_, rfl, .inl ⟨by simp only [newE]; rw [if_pos (by omega)]; decide, rfl, (Le.refl _)⟩⟩
    · -- c7 no
     replace c7 := of_decide_eq_false c7
     refine W_skip ?_
     refine F_seq ?_
     refine W_seq ?_
     refine W_reg (.pure 0 (.pure 1 (.pure 2 (.one 3 (.pure 4 (.pure 5 .nil)))))) rfl ?_
     refine LP rfl rfl rfl (xmv rfl) ?_
     refine LP rfl rfl rfl (xmv rfl) ?_
     refine LP rfl rfl rfl (xbd rfl (bd118_0ii_1ii se reps)) ?_
     refine LT rfl rfl rfl (xbox rfl) ?_
     rintro _ w1 ⟨b1, rfl, hl1, hb1, hb1z⟩
     refine ⟨trivial, ?_⟩
     refine LP rfl rfl rfl (xas rfl) ?_
     refine LP rfl rfl rfl (xas rfl) ?_
     refine LZ ?_
     refine F_seq ?_
     refine W_ret ?_
     have e : newE se reps = 0 := by simp only [newE]; rw [if_neg (by omega)]
     exact F_endR (rs := [.tmp 4, .tmp 5]) rfl (.tmp rfl (.tmp rfl .nil)) rfl ⟨_, rfl, .inr ⟨e, _, _, rfl, (Le.refl _), hb1z, hl1, fun S => ⟨hb1, RdX.nil _ _ _, RdX.nil _ _ _, RdX.nil _ _ _, RdX.nil _ _ _, RdX.nil _ _ _⟩⟩⟩
end Go.Proofs.Ythmhbonhagjnnaa
