/- Sessions: ticks, answers. -/
import Derived.Test.YthmhbonhagjnnaaProg
import Derived.Test.YthmhbonhagjnnaaC3
import Derived.KernelRfl
namespace Go.Proofs.Ythmhbonhagjnnaa
open Go.RowKit
set_option linter.unusedVariables false
set_option linter.unusedSimpArgs false
theorem fa52_0 : FA Try.prog 52 0 0 := fun _ _ _ => by kernel_rfl
theorem fa52_1 : FA Try.prog 52 1 1 := fun _ _ _ => by kernel_rfl
theorem fa52_2 : FA Try.prog 52 2 2 := fun _ _ _ => by kernel_rfl
theorem fa50_2 : FA Try.prog 50 2 2 := fun _ _ _ => by kernel_rfl
theorem ag50 : Ag Try.prog 50 4 := ⟨fun _ => by kernel_rfl, fun _ => by kernel_rfl⟩
theorem fa116_8 : FA Try.prog 116 8 13 := fun _ _ _ => by kernel_rfl
theorem fa116_9 : FA Try.prog 116 9 14 := fun _ _ _ => by kernel_rfl
theorem sz50 : ∀ w, (sizeOf 50).run Try.prog w = .ok 4 w := fun _ => by kernel_rfl
theorem fa50_1 : FA Try.prog 50 1 1 := fun _ _ _ => by kernel_rfl
theorem fa118_8 : FA Try.prog 118 8 13 := fun _ _ _ => by kernel_rfl
theorem fa118_9 : FA Try.prog 118 9 14 := fun _ _ _ => by kernel_rfl
theorem fa118_7 : FA Try.prog 118 7 12 := fun _ _ _ => by kernel_rfl
theorem c_tick {S : List Nat} {b : Nat} {c : Cli} {w : World} (hc : Cl S w 116 b c) (hok : c.ok) (hbS : b ∈ S) (hS : ∀ i ∈ S, i < w.heap.size) :
    Fn Try.prog 57 #[.pointer (some ⟨b, 0, none⟩)] w fun v w' => (tickS c = false ∧ v = .tuple #[(.agg #[.int .i64 0, .int .i64 zTxn.se, .int .i64 zTxn.rq, .slice none 0 0, .slice none 0 0, .slice none 0 0, .slice none 0 0, .bool false, .slice none 0 0, .int .i64 0]), .bool false] ∧ Lx [b] w w' ∧ Cl S w' 116 b (tickC c)) ∨ (tickS c = true ∧ ∃ xc xa xr xw, v = .tuple #[(.agg #[.int .i64 (tickC c).turn, .int .i64 c.t.se, .int .i64 c.t.rq, xc, xa, xr, xw, .bool false, .slice none 0 0, .int .i64 0]), .bool true] ∧ Lx [b] w w' ∧ Cl S w' 116 b (tickC c) ∧ RdX S w'.heap ByteE xc c.t.code ∧ RdX S w'.heap IntE xa c.t.args ∧ RdX S w'.heap KeyE xr c.t.reads ∧ RdX S w'.heap KeyE xw c.t.writes) := by
 refine Fn.enter 45 [(0, _)] Try.func57 rfl rfl rfl rfl ?_
 obtain ⟨vc, va, vr, vw, vl, hb, hcc, hca, hcr, hcw, hcl⟩ := id hc
 have hr1 := hok.r1
 have hr2 := hok.r2
 have hq1 := hok.q1
 have hq2 := hok.q2
 have hw1 := hok.w1
 have hw2 := hok.w2
 have ht1 := hok.t1
 have ht2 := hok.t2
 obtain ⟨hzc, hza, hzr, hzw⟩ := hok.sm
 have hzl := hok.lv
 refine W_seq ?_
 refine W_reg (.one 0 (.pure 1 .nil)) rfl ?_
 refine LT rfl rfl rfl (xal zr36) ?_
 rintro _ w1 ⟨b1, rfl, hl1, hb1, hb1z⟩
 refine ⟨trivial, ?_⟩
 refine LP rfl rfl rfl (xas rfl) ?_
 refine LZ ?_
 refine F_seq ?_
 refine W_seq ?_
 refine W_seq ?_
 refine W_reg (.pure 0 (.one 1 (.pure 2 (.pure 3 (.pure 4 (.pure 5 (.one 6 (.pure 7 (.pure 8 .nil))))))))) rfl ?_
 refine LP rfl rfl rfl (xmv rfl) ?_
 refine LF rfl rfl rfl has60 rfl (c_none (Le.clx hl1 hc) hok hbS (lt_le hS hl1.size)) ?_
 rintro _ w2 ⟨rfl, hl2⟩
 refine ⟨trivial, ?_⟩
 refine LP rfl rfl rfl (xmv rfl) ?_
 refine LP rfl rfl rfl (xmv rfl) ?_
 refine LP rfl rfl rfl (xnc rfl) ?_
 refine LP rfl rfl rfl (xfa fa116_3 rfl) ?_
 refine LX rfl rfl rfl (xld sc4 rfl (cl_bk (Le.bk (hl1.trans hl2) hb) rfl)) trivial ?_
 refine LP rfl rfl rfl (xnot rfl) ?_
 refine LP rfl rfl rfl (xpk0 rfl rfl) ?_
 refine LZ ?_
 refine F_seq ?_
 refine W_cond rfl (fun c1 => ?_) (fun c1 => ?_)
 · -- c1 yes
  try simp only [Bool.not_eq_true', Bool.not_eq_false', decide_eq_true_eq, decide_eq_false_iff_not] at c1
  have hp : c.pend = false := by simpa using c1
  refine W_seq ?_
  refine W_reg (.pure 0 (.one 1 (.pure 2 .nil))) rfl ?_
  refine LP rfl rfl rfl (xbd rfl (bd36_ ())) ?_
  refine LU rfl rfl (xsb sz36 (Le.bk hl2 hb1) rfl rfl (agg_cells _) rfl rfl (al_cons rfl (al_cons rfl (al_cons rfl (al_cons rfl (al_cons rfl (al_cons rfl (al_cons rfl (al_cons rfl (al_cons rfl (al_cons rfl al_nil))))))))))) ?_
  rintro w3 ⟨hq1, hb2⟩
  dsimp only [put] at hb2
  refine ⟨trivial, ?_⟩
  refine LP rfl rfl rfl (xas rfl) ?_
  refine LZ ?_
  refine F_seq ?_
  refine W_ret ?_
  refine F_ret_then ?_
  have lx1 : Lx [b] w w3 := (hq1.drop (Lx.trans (Lx.trans (Lx.refl _ _) hl1.lx) hl2.lx) (dr_new (Nat.le_refl _) hb1z dr_nil))
  have le1 : Le w w3 := (hq1.le (hl1.trans hl2) (inc (Nat.le_refl _) hb1z inn))
  have e : tickC c = c := by unfold tickC; rw [if_pos hp]
  have hE : tickS c = false := by simp [tickS, hp]
  exact F_endR (rs := [.cell 2 36, .tmp 3]) rfl (.cell rfl (run_ld0 ag36 hb2 rfl) (.tmp rfl .nil)) rfl ⟨_, rfl, .inl ⟨hE, rfl, lx1, by rw [e]; exact ⟨_, _, _, _, _, (Le.bk le1 hb), (Le.rdx le1 hcc), (Le.rdx le1 hca), (Le.rdx le1 hcr), (Le.rdx le1 hcw), (Le.rdx le1 hcl)⟩⟩⟩
 · -- c1 no
  try simp only [Bool.not_eq_true', Bool.not_eq_false', decide_eq_true_eq, decide_eq_false_iff_not] at c1
  have hp : c.pend = true := by simpa using c1
  refine W_skip ?_
  refine F_seq ?_
  refine W_seq ?_
  refine W_seq ?_
  refine W_reg (.pure 0 (.pure 1 (.pure 2 (.one 3 (.pure 4 (.pure 5 (.pure 6 (.one 7 .nil)))))))) rfl ?_
  refine LP rfl rfl rfl (xmv rfl) ?_
  refine LP rfl rfl rfl (xnc rfl) ?_
  refine LP rfl rfl rfl (xfa fa116_5 rfl) ?_
  refine LX rfl rfl rfl (xld sc3 rfl (cl_bk (Le.bk (hl1.trans hl2) hb) rfl)) trivial ?_
  refine LP rfl rfl rfl (xaddn rfl rfl (by omega)) ?_
  refine LP rfl rfl rfl (xnc rfl) ?_
  refine LP rfl rfl rfl (xfa fa116_5 rfl) ?_
  refine LU rfl rfl (xsb sz3 (Le.bk (hl1.trans hl2) hb) rfl rfl (int_cells _ _) rfl rfl (al_cons rfl al_nil)) ?_
  rintro w4 ⟨hq2, hb3⟩
  dsimp only [put] at hb3
  have hk1 := Lx.rdx2 hq2 hcc.rd rfl (dr_in hbS dr_nil) (Le.rdx (hl1.trans hl2) hcc)
  have hk2 := Lx.rdx2 hq2 hca.rd rfl (dr_in hbS dr_nil) (Le.rdx (hl1.trans hl2) hca)
  have hk3 := Lx.rdx2 hq2 hcr.rd rfl (dr_in hbS dr_nil) (Le.rdx (hl1.trans hl2) hcr)
  have hk4 := Lx.rdx2 hq2 hcw.rd rfl (dr_in hbS dr_nil) (Le.rdx (hl1.trans hl2) hcw)
  have hk5 := Lx.rdx2 hq2 hcl.rd rfl (dr_in hbS dr_nil) (Le.rdx (hl1.trans hl2) hcl)
  have hk6 := hq2.bk (ni_new hb1z (Nat.lt_of_lt_of_le (bk_lt hb) (Nat.le_refl _)) ni_nil) (Le.bk hl2 hb1)
  refine ⟨trivial, ?_⟩
  refine LZ ?_
  refine F_seq ?_
  refine W_seq ?_
  refine W_reg (.pure 0 (.pure 1 (.pure 2 (.one 3 (.pure 4 .nil))))) rfl ?_
  refine LP rfl rfl rfl (xmv rfl) ?_
  refine LP rfl rfl rfl (xnc rfl) ?_
  refine LP rfl rfl rfl (xfa fa116_5 rfl) ?_
  refine LX rfl rfl rfl (xld sc3 rfl (cl_bk hb3 rfl)) trivial ?_
  refine LP rfl rfl rfl (xlss rfl rfl) ?_
  refine LZ ?_
  refine F_seq ?_
  refine W_cond rfl (fun c2 => ?_) (fun c2 => ?_)
  · -- c2 yes
   replace c2 := of_decide_eq_true c2
   refine W_seq ?_
   refine W_reg (.pure 0 (.one 1 (.pure 2 .nil))) rfl ?_
   refine LP rfl rfl rfl (xbd rfl (bd36_ ())) ?_
   refine LU rfl rfl (xsb sz36 hk6 rfl rfl (agg_cells _) rfl rfl (al_cons rfl (al_cons rfl (al_cons rfl (al_cons rfl (al_cons rfl (al_cons rfl (al_cons rfl (al_cons rfl (al_cons rfl (al_cons rfl al_nil))))))))))) ?_
   rintro w5 ⟨hq3, hb4⟩
   dsimp only [put] at hb4
   have hk7 := hq3.bk (ni_old (Nat.lt_of_lt_of_le (bk_lt hb) (Nat.le_refl _)) hb1z ni_nil) hb3
   have hk8 := Lx.rdx2 hq3 hcc.rd rfl (dr_new (Nat.le_refl _) hb1z dr_nil) hk1
   have hk9 := Lx.rdx2 hq3 hca.rd rfl (dr_new (Nat.le_refl _) hb1z dr_nil) hk2
   have hk10 := Lx.rdx2 hq3 hcr.rd rfl (dr_new (Nat.le_refl _) hb1z dr_nil) hk3
   have hk11 := Lx.rdx2 hq3 hcw.rd rfl (dr_new (Nat.le_refl _) hb1z dr_nil) hk4
   have hk12 := Lx.rdx2 hq3 hcl.rd rfl (dr_new (Nat.le_refl _) hb1z dr_nil) hk5
   refine ⟨trivial, ?_⟩
   refine LP rfl rfl rfl (xas rfl) ?_
   refine LZ ?_
   refine F_seq ?_
   refine W_ret ?_
   refine F_ret_then ?_
   have lx2 : Lx [b] w w4 := (hq2.drop (Lx.trans (Lx.trans (Lx.refl _ _) hl1.lx) hl2.lx) (dr_in (by simp) dr_nil))
   have lx3 : Lx [b] w w5 := (hq3.drop lx2 (dr_new (Nat.le_refl _) hb1z dr_nil))
   have e : tickC c = { c with wait := c.wait + 1 } := by unfold tickC; rw [if_neg (by simp [hp]), if_pos (by omega)]
   have hE : tickS c = false := by simp [tickS]; omega
   exact F_endR (rs := [.cell 2 36, .tmp 3]) rfl (.cell rfl (run_ld0 ag36 hb4 rfl) (.tmp rfl .nil)) rfl ⟨_, rfl, .inl ⟨hE, rfl, lx3, by rw [e]; exact ⟨_, _, _, _, _, hk7, hk8, hk9, hk10, hk11, hk12⟩⟩⟩
  · -- c2 no
   replace c2 := of_decide_eq_false c2
   have e : tickC c = { c with wait := 0, turn := (c.turn + 1).tmod c.reps } := by unfold tickC; rw [if_neg (by simp [hp]), if_neg (by omega)]
   have hE : tickS c = true := by simp [tickS, hp]; omega
   refine W_skip ?_
   refine F_seq ?_
   refine W_seq ?_
   refine W_draw (.pure 0 (.pure 1 (.pure 2 (.pure 3 (.pure 4 (.still 5 (.pure 6 (.pure 7 (.pure 8 (.pure 9 (.still 10 (.pure 11 (.pure 12 (.pure 13 (.tail 14 (.pure 15 (.pure 16 (.tail 17 .nil)))))))))))))))))) (Le w4) hfol (by kernel_rfl) (pkt pkB) (Le.drew _) ?_
   refine LP rfl rfl rfl (xmv rfl) ?_
   refine LP rfl rfl rfl (xmv rfl) ?_
   refine LP rfl rfl rfl (xmv rfl) ?_
   refine LP rfl rfl rfl (xnc rfl) ?_
   refine LP rfl rfl rfl (xfa fa116_6 rfl) ?_
   refine LS rfl rfl rfl (fun w' hw' => (xld sc3 rfl (cl_bk (Le.bk hw' hb3) rfl))) ?_
   refine LP rfl rfl rfl (xaddn rfl rfl (by omega)) ?_
   refine LP rfl rfl rfl (xmv rfl) ?_
   refine LP rfl rfl rfl (xnc rfl) ?_
   refine LP rfl rfl rfl (xfa fa116_1 rfl) ?_
   refine LS rfl rfl rfl (fun w' hw' => (xld sc3 rfl (cl_bk (Le.bk hw' hb3) rfl))) ?_
   refine LP rfl rfl rfl (xrem rfl rfl (by omega)) ?_
   refine LP rfl rfl rfl (xnc rfl) ?_
   refine LP rfl rfl rfl (xfa fa116_5 rfl) ?_
   refine LUt rfl rfl (xsb sz3 (Le.bk (Le.drew w4) hb3) rfl rfl (int_cells _ _) rfl rfl (al_cons rfl al_nil)) ?_
   rintro w6 ⟨hq4, hb5⟩
   dsimp only [put] at hb5
   have hk13 := Lx.rdx2 hq4 hcc.rd rfl (dr_in hbS dr_nil) (Le.rdx (Le.drew w4) hk1)
   have hk14 := Lx.rdx2 hq4 hca.rd rfl (dr_in hbS dr_nil) (Le.rdx (Le.drew w4) hk2)
   have hk15 := Lx.rdx2 hq4 hcr.rd rfl (dr_in hbS dr_nil) (Le.rdx (Le.drew w4) hk3)
   have hk16 := Lx.rdx2 hq4 hcw.rd rfl (dr_in hbS dr_nil) (Le.rdx (Le.drew w4) hk4)
   have hk17 := Lx.rdx2 hq4 hcl.rd rfl (dr_in hbS dr_nil) (Le.rdx (Le.drew w4) hk5)
   have hk18 := hq4.bk (ni_new hb1z (Nat.lt_of_lt_of_le (bk_lt hb) (Nat.le_refl _)) ni_nil) (Le.bk (Le.drew w4) hk6)
   refine LP rfl rfl rfl (xnc rfl) ?_
   refine LP rfl rfl rfl (xfa fa116_6 rfl) ?_
   refine LUt rfl rfl (xsb sz3 hb5 rfl rfl (int_cells _ _) rfl rfl (al_cons rfl al_nil)) ?_
   rintro w7 ⟨hq5, hb6⟩
   dsimp only [put] at hb6
   have hk19 := Lx.rdx2 hq5 hcc.rd rfl (dr_in hbS dr_nil) hk13
   have hk20 := Lx.rdx2 hq5 hca.rd rfl (dr_in hbS dr_nil) hk14
   have hk21 := Lx.rdx2 hq5 hcr.rd rfl (dr_in hbS dr_nil) hk15
   have hk22 := Lx.rdx2 hq5 hcw.rd rfl (dr_in hbS dr_nil) hk16
   have hk23 := Lx.rdx2 hq5 hcl.rd rfl (dr_in hbS dr_nil) hk17
   have hk24 := hq5.bk (ni_new hb1z (Nat.lt_of_lt_of_le (bk_lt hb) (Nat.le_refl _)) ni_nil) hk18
   refine LZ ?_
   refine F_seq ?_
   refine W_seq ?_
   refine W_reg (.pure 0 (.one 1 (.one 2 (.pure 3 .nil)))) rfl ?_
   refine LP rfl rfl rfl (xmv rfl) ?_
   have hcl1 : Cl S w7 116 b ({ c with wait := 0, turn := (c.turn + 1).tmod c.reps }) := ⟨_, _, _, _, _, hb6, hk19, hk20, hk21, hk22, hk23⟩
   have hrq1 : RdE w7.heap ByteE vc c.t.code := hk19.rd
   have hrq2 : RdE w7.heap IntE va c.t.args := hk20.rd
   have hrq3 : RdE w7.heap KeyE vr c.t.reads := hk21.rd
   have hrq4 : RdE w7.heap KeyE vw c.t.writes := hk22.rd
   have hrq5 : RdE w7.heap IntE vl c.last.vals := hk23.rd
   refine LF rfl rfl rfl has62 rfl (c_ask hcl1 (by rw [← e]; exact tickC_ok hok) hbS (lt_le hS (Nat.le_trans hl1.size (Nat.le_trans hl2.size (Nat.le_trans hq2.size (Nat.le_trans (Le.drew w4).size (Nat.le_trans hq4.size hq5.size))))))) ?_
   rintro _ w8 ⟨xc1, xa1, xr1, xw1, rfl, hl3, ho1, ho2, ho3, ho4, hof1⟩
   refine ⟨trivial, ?_⟩
   refine LU rfl rfl (xsb sz36 (Le.bk hl3 hk24) rfl rfl (agg_cells _) rfl rfl (al_cons rfl (al_cons rfl (al_cons rfl (al_cons ho1.rd.sh.one (al_cons ho2.rd.sh.one (al_cons ho3.rd.sh.one (al_cons ho4.rd.sh.one (al_cons rfl (al_cons rfl (al_cons rfl al_nil))))))))))) ?_
   rintro w9 ⟨hq6, hb7⟩
   dsimp only [put] at hb7
   have hk25 := hq6.bk (ni_old (Nat.lt_of_lt_of_le (bk_lt hb) (Nat.le_refl _)) hb1z ni_nil) (Le.bk hl3 hb6)
   have hk26 := Lx.rdx2 hq6 hcc.rd rfl (dr_new (Nat.le_refl _) hb1z dr_nil) (Le.rdx hl3 hk19)
   have hk27 := Lx.rdx2 hq6 hca.rd rfl (dr_new (Nat.le_refl _) hb1z dr_nil) (Le.rdx hl3 hk20)
   have hk28 := Lx.rdx2 hq6 hcr.rd rfl (dr_new (Nat.le_refl _) hb1z dr_nil) (Le.rdx hl3 hk21)
   have hk29 := Lx.rdx2 hq6 hcw.rd rfl (dr_new (Nat.le_refl _) hb1z dr_nil) (Le.rdx hl3 hk22)
   have hk30 := Lx.rdx2 hq6 hcl.rd rfl (dr_new (Nat.le_refl _) hb1z dr_nil) (Le.rdx hl3 hk23)
   have hk31 := hq6.ow (Off.cons (Ow.ne_new ho1 (Nat.lt_of_lt_of_le (bk_lt hb1) (Nat.le_trans hl2.size (Nat.le_trans hq2.size (Nat.le_trans (Le.drew w4).size (Nat.le_trans hq4.size hq5.size)))))) Off.nil) ho1
   have hk32 := hq6.ow (Off.cons (Ow.ne_new ho2 (Nat.lt_of_lt_of_le (bk_lt hb1) (Nat.le_trans hl2.size (Nat.le_trans hq2.size (Nat.le_trans (Le.drew w4).size (Nat.le_trans hq4.size hq5.size)))))) Off.nil) ho2
   have hk33 := hq6.ow (Off.cons (Ow.ne_new ho3 (Nat.lt_of_lt_of_le (bk_lt hb1) (Nat.le_trans hl2.size (Nat.le_trans hq2.size (Nat.le_trans (Le.drew w4).size (Nat.le_trans hq4.size hq5.size)))))) Off.nil) ho3
   have hk34 := hq6.ow (Off.cons (Ow.ne_new ho4 (Nat.lt_of_lt_of_le (bk_lt hb1) (Nat.le_trans hl2.size (Nat.le_trans hq2.size (Nat.le_trans (Le.drew w4).size (Nat.le_trans hq4.size hq5.size)))))) Off.nil) ho4
   refine ⟨trivial, ?_⟩
   refine LP rfl rfl rfl (xas rfl) ?_
   refine LZ ?_
   refine F_seq ?_
   refine W_ret ?_
   have lx4 : Lx [b] w w4 := (hq2.drop (Lx.trans (Lx.trans (Lx.refl _ _) hl1.lx) hl2.lx) (dr_in (by simp) dr_nil))
   have lx5 : Lx [b] w w6 := (hq4.drop (Lx.trans lx4 (Le.drew w4).lx) (dr_in (by simp) dr_nil))
   have lx6 : Lx [b] w w7 := (hq5.drop lx5 (dr_in (by simp) dr_nil))
   have lx7 : Lx [b] w w9 := (hq6.drop (Lx.trans lx6 hl3.lx) (dr_new (Nat.le_refl _) hb1z dr_nil))
   exact F_endR (rs := [.cell 2 36, .tmp 3]) rfl (.cell rfl (run_ld0 ag36 hb7 rfl) (.tmp rfl .nil)) rfl ⟨_, rfl, .inr ⟨hE, _, _, _, _, (by rw [e]; rfl), lx7, by rw [e]; exact ⟨_, _, _, _, _, hk25, hk26, hk27, hk28, hk29, hk30⟩, (Ow.rdx hk31 (lt_le hS (Nat.le_trans hl1.size (Nat.le_trans hl2.size (Nat.le_trans hq2.size (Nat.le_trans (Le.drew w4).size (Nat.le_trans hq4.size hq5.size))))))), (Ow.rdx hk32 (lt_le hS (Nat.le_trans hl1.size (Nat.le_trans hl2.size (Nat.le_trans hq2.size (Nat.le_trans (Le.drew w4).size (Nat.le_trans hq4.size hq5.size))))))), (Ow.rdx hk33 (lt_le hS (Nat.le_trans hl1.size (Nat.le_trans hl2.size (Nat.le_trans hq2.size (Nat.le_trans (Le.drew w4).size (Nat.le_trans hq4.size hq5.size))))))), (Ow.rdx hk34 (lt_le hS (Nat.le_trans hl1.size (Nat.le_trans hl2.size (Nat.le_trans hq2.size (Nat.le_trans (Le.drew w4).size (Nat.le_trans hq4.size hq5.size)))))))⟩⟩
theorem r_tick {S : List Nat} {b : Nat} {c : Cli} {w : World} (hc : Cl S w 118 b c) (hok : c.ok) (hbS : b ∈ S) (hS : ∀ i ∈ S, i < w.heap.size) :
    Fn Try.prog 70 #[.pointer (some ⟨b, 0, none⟩)] w fun v w' => (tickS c = false ∧ v = .tuple #[(.agg #[.int .i64 0, .int .i64 zTxn.se, .int .i64 zTxn.rq, .slice none 0 0, .slice none 0 0, .slice none 0 0, .slice none 0 0, .bool false, .slice none 0 0, .int .i64 0]), .bool false] ∧ Lx [b] w w' ∧ Cl S w' 118 b (tickC c)) ∨ (tickS c = true ∧ ∃ xc xa xr xw, v = .tuple #[(.agg #[.int .i64 (tickC c).turn, .int .i64 c.t.se, .int .i64 c.t.rq, xc, xa, xr, xw, .bool false, .slice none 0 0, .int .i64 0]), .bool true] ∧ Lx [b] w w' ∧ Cl S w' 118 b (tickC c) ∧ RdX S w'.heap ByteE xc c.t.code ∧ RdX S w'.heap IntE xa c.t.args ∧ RdX S w'.heap KeyE xr c.t.reads ∧ RdX S w'.heap KeyE xw c.t.writes) := by
 refine Fn.enter 48 [(0, _)] Try.func70 rfl rfl rfl rfl ?_
 obtain ⟨vc, va, vr, vw, vl, hb, hcc, hca, hcr, hcw, hcl⟩ := id hc
 have hr1 := hok.r1
 have hr2 := hok.r2
 have hq1 := hok.q1
 have hq2 := hok.q2
 have hw1 := hok.w1
 have hw2 := hok.w2
 have ht1 := hok.t1
 have ht2 := hok.t2
 obtain ⟨hzc, hza, hzr, hzw⟩ := hok.sm
 have hzl := hok.lv
 refine W_seq ?_
 refine W_reg (.one 0 (.pure 1 .nil)) rfl ?_
 refine LT rfl rfl rfl (xal zr36) ?_
 rintro _ w1 ⟨b1, rfl, hl1, hb1, hb1z⟩
 refine ⟨trivial, ?_⟩
 refine LP rfl rfl rfl (xas rfl) ?_
 refine LZ ?_
 refine F_seq ?_
 refine W_seq ?_
 refine W_seq ?_
 refine W_reg (.pure 0 (.pure 1 (.pure 2 (.one 3 (.pure 4 .nil))))) rfl ?_
 refine LP rfl rfl rfl (xmv rfl) ?_
 refine LP rfl rfl rfl (xnc rfl) ?_
 refine LP rfl rfl rfl (xfa fa118_3 rfl) ?_
 refine LX rfl rfl rfl (xld sc4 rfl (cl_bk (Le.bk hl1 hb) rfl)) trivial ?_
 refine LP rfl rfl rfl (xnot rfl) ?_
 refine LZ ?_
 refine F_seq ?_
 refine W_cond rfl (fun c1 => ?_) (fun c1 => ?_)
 · -- c1 yes
  try simp only [Bool.not_eq_true', Bool.not_eq_false', decide_eq_true_eq, decide_eq_false_iff_not] at c1
  have hp : c.pend = false := by simpa using c1
  refine W_seq ?_
  refine W_reg (.pure 0 (.one 1 (.pure 2 .nil))) rfl ?_
  refine LP rfl rfl rfl (xbd rfl (bd36_ ())) ?_
  refine LU rfl rfl (xsb sz36 hb1 rfl rfl (agg_cells _) rfl rfl (al_cons rfl (al_cons rfl (al_cons rfl (al_cons rfl (al_cons rfl (al_cons rfl (al_cons rfl (al_cons rfl (al_cons rfl (al_cons rfl al_nil))))))))))) ?_
  rintro w2 ⟨hq1, hb2⟩
  dsimp only [put] at hb2
  refine ⟨trivial, ?_⟩
  refine LP rfl rfl rfl (xas rfl) ?_
  refine LZ ?_
  refine F_seq ?_
  refine W_ret ?_
  refine F_ret_then ?_
  have lx1 : Lx [b] w w2 := (hq1.drop (Lx.trans (Lx.refl _ _) hl1.lx) (dr_new (Nat.le_refl _) hb1z dr_nil))
  have le1 : Le w w2 := (hq1.le hl1 (inc (Nat.le_refl _) hb1z inn))
  have e : tickC c = c := by unfold tickC; rw [if_pos hp]
  have hE : tickS c = false := by simp [tickS, hp]
  exact F_endR (rs := [.cell 2 36, .tmp 3]) rfl (.cell rfl (run_ld0 ag36 hb2 rfl) (.tmp rfl .nil)) rfl ⟨_, rfl, .inl ⟨hE, rfl, lx1, by rw [e]; exact ⟨_, _, _, _, _, (Le.bk le1 hb), (Le.rdx le1 hcc), (Le.rdx le1 hca), (Le.rdx le1 hcr), (Le.rdx le1 hcw), (Le.rdx le1 hcl)⟩⟩⟩
 · -- c1 no
  try simp only [Bool.not_eq_true', Bool.not_eq_false', decide_eq_true_eq, decide_eq_false_iff_not] at c1
  have hp : c.pend = true := by simpa using c1
  refine W_skip ?_
  refine F_seq ?_
  refine W_seq ?_
  refine W_reg (.pure 0 (.pure 1 (.pure 2 (.one 3 (.pure 4 (.pure 5 (.pure 6 (.one 7 .nil)))))))) rfl ?_
  refine LP rfl rfl rfl (xmv rfl) ?_
  refine LP rfl rfl rfl (xnc rfl) ?_
  refine LP rfl rfl rfl (xfa fa118_5 rfl) ?_
  refine LX rfl rfl rfl (xld sc3 rfl (cl_bk (Le.bk hl1 hb) rfl)) trivial ?_
  refine LP rfl rfl rfl (xaddn rfl rfl (by omega)) ?_
  refine LP rfl rfl rfl (xnc rfl) ?_
  refine LP rfl rfl rfl (xfa fa118_5 rfl) ?_
  refine LU rfl rfl (xsb sz3 (Le.bk hl1 hb) rfl rfl (int_cells _ _) rfl rfl (al_cons rfl al_nil)) ?_
  rintro w3 ⟨hq2, hb3⟩
  dsimp only [put] at hb3
  have hk1 := Lx.rdx2 hq2 hcc.rd rfl (dr_in hbS dr_nil) (Le.rdx hl1 hcc)
  have hk2 := Lx.rdx2 hq2 hca.rd rfl (dr_in hbS dr_nil) (Le.rdx hl1 hca)
  have hk3 := Lx.rdx2 hq2 hcr.rd rfl (dr_in hbS dr_nil) (Le.rdx hl1 hcr)
  have hk4 := Lx.rdx2 hq2 hcw.rd rfl (dr_in hbS dr_nil) (Le.rdx hl1 hcw)
  have hk5 := Lx.rdx2 hq2 hcl.rd rfl (dr_in hbS dr_nil) (Le.rdx hl1 hcl)
  have hk6 := hq2.bk (ni_new hb1z (Nat.lt_of_lt_of_le (bk_lt hb) (Nat.le_refl _)) ni_nil) hb1
  refine ⟨trivial, ?_⟩
  refine LZ ?_
  refine F_seq ?_
  refine W_seq ?_
  refine W_seq ?_
  refine W_reg (.pure 0 (.pure 1 (.pure 2 (.one 3 (.pure 4 .nil))))) rfl ?_
  refine LP rfl rfl rfl (xmv rfl) ?_
  refine LP rfl rfl rfl (xnc rfl) ?_
  refine LP rfl rfl rfl (xfa fa118_5 rfl) ?_
  refine LX rfl rfl rfl (xld sc3 rfl (cl_bk hb3 rfl)) trivial ?_
  refine LP rfl rfl rfl (xlss rfl rfl) ?_
  refine LZ ?_
  refine F_seq ?_
  refine W_cond rfl (fun c2 => ?_) (fun c2 => ?_)
  · -- c2 yes
   replace c2 := of_decide_eq_true c2
   refine W_seq ?_
   refine W_reg (.pure 0 (.one 1 (.pure 2 .nil))) rfl ?_
   refine LP rfl rfl rfl (xbd rfl (bd36_ ())) ?_
   refine LU rfl rfl (xsb sz36 hk6 rfl rfl (agg_cells _) rfl rfl (al_cons rfl (al_cons rfl (al_cons rfl (al_cons rfl (al_cons rfl (al_cons rfl (al_cons rfl (al_cons rfl (al_cons rfl (al_cons rfl al_nil))))))))))) ?_
   rintro w4 ⟨hq3, hb4⟩
   dsimp only [put] at hb4
   have hk7 := hq3.bk (ni_old (Nat.lt_of_lt_of_le (bk_lt hb) (Nat.le_refl _)) hb1z ni_nil) hb3
   have hk8 := Lx.rdx2 hq3 hcc.rd rfl (dr_new (Nat.le_refl _) hb1z dr_nil) hk1
   have hk9 := Lx.rdx2 hq3 hca.rd rfl (dr_new (Nat.le_refl _) hb1z dr_nil) hk2
   have hk10 := Lx.rdx2 hq3 hcr.rd rfl (dr_new (Nat.le_refl _) hb1z dr_nil) hk3
   have hk11 := Lx.rdx2 hq3 hcw.rd rfl (dr_new (Nat.le_refl _) hb1z dr_nil) hk4
   have hk12 := Lx.rdx2 hq3 hcl.rd rfl (dr_new (Nat.le_refl _) hb1z dr_nil) hk5
   refine ⟨trivial, ?_⟩
   refine LP rfl rfl rfl (xas rfl) ?_
   refine LZ ?_
   refine F_seq ?_
   refine W_ret ?_
   refine F_ret_then ?_
   have lx2 : Lx [b] w w3 := (hq2.drop (Lx.trans (Lx.refl _ _) hl1.lx) (dr_in (by simp) dr_nil))
   have lx3 : Lx [b] w w4 := (hq3.drop lx2 (dr_new (Nat.le_refl _) hb1z dr_nil))
   have e : tickC c = { c with wait := c.wait + 1 } := by unfold tickC; rw [if_neg (by simp [hp]), if_pos (by omega)]
   have hE : tickS c = false := by simp [tickS]; omega
   exact F_endR (rs := [.cell 2 36, .tmp 3]) rfl (.cell rfl (run_ld0 ag36 hb4 rfl) (.tmp rfl .nil)) rfl ⟨_, rfl, .inl ⟨hE, rfl, lx3, by rw [e]; exact ⟨_, _, _, _, _, hk7, hk8, hk9, hk10, hk11, hk12⟩⟩⟩
  · -- c2 no
   replace c2 := of_decide_eq_false c2
   have e : tickC c = { c with wait := 0, turn := (c.turn + 1).tmod c.reps } := by unfold tickC; rw [if_neg (by simp [hp]), if_neg (by omega)]
   have hE : tickS c = true := by simp [tickS, hp]; omega
   refine W_skip ?_
   refine F_seq ?_
   refine W_seq ?_
   refine W_reg (.pure 0 (.pure 1 (.pure 2 (.one 3 .nil)))) rfl ?_
   refine LP rfl rfl rfl (xmv rfl) ?_
   refine LP rfl rfl rfl (xnc rfl) ?_
   refine LP rfl rfl rfl (xfa fa118_5 rfl) ?_
   refine LU rfl rfl (xsb sz3 hb3 rfl rfl (int_cells _ _) rfl rfl (al_cons rfl al_nil)) ?_
   rintro w5 ⟨hq4, hb5⟩
   dsimp only [put] at hb5
   have hk13 := Lx.rdx2 hq4 hcc.rd rfl (dr_in hbS dr_nil) hk1
   have hk14 := Lx.rdx2 hq4 hca.rd rfl (dr_in hbS dr_nil) hk2
   have hk15 := Lx.rdx2 hq4 hcr.rd rfl (dr_in hbS dr_nil) hk3
   have hk16 := Lx.rdx2 hq4 hcw.rd rfl (dr_in hbS dr_nil) hk4
   have hk17 := Lx.rdx2 hq4 hcl.rd rfl (dr_in hbS dr_nil) hk5
   have hk18 := hq4.bk (ni_new hb1z (Nat.lt_of_lt_of_le (bk_lt hb) (Nat.le_refl _)) ni_nil) hk6
   refine ⟨trivial, ?_⟩
   refine LZ ?_
   refine F_seq ?_
   refine W_seq ?_
   refine W_draw (.pure 0 (.pure 1 (.pure 2 (.pure 3 (.still 4 (.pure 5 (.pure 6 (.pure 7 (.pure 8 (.still 9 (.pure 10 (.pure 11 (.pure 12 (.tail 13 .nil)))))))))))))) (Le w5) hfol (by kernel_rfl) (pkt pkB) (Le.drew _) ?_
   refine LP rfl rfl rfl (xmv rfl) ?_
   refine LP rfl rfl rfl (xmv rfl) ?_
   refine LP rfl rfl rfl (xnc rfl) ?_
   refine LP rfl rfl rfl (xfa fa118_6 rfl) ?_
   refine LS rfl rfl rfl (fun w' hw' => (xld sc3 rfl (cl_bk (Le.bk hw' hb5) rfl))) ?_
   refine LP rfl rfl rfl (xaddn rfl rfl (by omega)) ?_
   refine LP rfl rfl rfl (xmv rfl) ?_
   refine LP rfl rfl rfl (xnc rfl) ?_
   refine LP rfl rfl rfl (xfa fa118_1 rfl) ?_
   refine LS rfl rfl rfl (fun w' hw' => (xld sc3 rfl (cl_bk (Le.bk hw' hb5) rfl))) ?_
   refine LP rfl rfl rfl (xrem rfl rfl (by omega)) ?_
   refine LP rfl rfl rfl (xnc rfl) ?_
   refine LP rfl rfl rfl (xfa fa118_6 rfl) ?_
   refine LUt rfl rfl (xsb sz3 (Le.bk (Le.drew w5) hb5) rfl rfl (int_cells _ _) rfl rfl (al_cons rfl al_nil)) ?_
   rintro w6 ⟨hq5, hb6⟩
   dsimp only [put] at hb6
   have hk19 := Lx.rdx2 hq5 hcc.rd rfl (dr_in hbS dr_nil) (Le.rdx (Le.drew w5) hk13)
   have hk20 := Lx.rdx2 hq5 hca.rd rfl (dr_in hbS dr_nil) (Le.rdx (Le.drew w5) hk14)
   have hk21 := Lx.rdx2 hq5 hcr.rd rfl (dr_in hbS dr_nil) (Le.rdx (Le.drew w5) hk15)
   have hk22 := Lx.rdx2 hq5 hcw.rd rfl (dr_in hbS dr_nil) (Le.rdx (Le.drew w5) hk16)
   have hk23 := Lx.rdx2 hq5 hcl.rd rfl (dr_in hbS dr_nil) (Le.rdx (Le.drew w5) hk17)
   have hk24 := hq5.bk (ni_new hb1z (Nat.lt_of_lt_of_le (bk_lt hb) (Nat.le_refl _)) ni_nil) (Le.bk (Le.drew w5) hk18)
   refine LZ ?_
   refine F_seq ?_
   refine W_seq ?_
   refine W_draw (.pure 0 (.pure 1 (.pure 2 (.still 3 (.pure 4 (.pure 5 (.pure 6 (.still 7 (.pure 8 (.tail 9 (.pure 10 .nil))))))))))) (Le w6) hfol (by kernel_rfl) (pkt pkB) (Le.drew _) ?_
   refine LP rfl rfl rfl (xmv rfl) ?_
   refine LP rfl rfl rfl (xnc rfl) ?_
   refine LP rfl rfl rfl (xfa fa118_6 rfl) ?_
   refine LS rfl rfl rfl (fun w' hw' => (xld sc3 rfl (cl_bk (Le.bk hw' hb6) rfl))) ?_
   refine LP rfl rfl rfl (xmv rfl) ?_
   refine LP rfl rfl rfl (xnc rfl) ?_
   refine LP rfl rfl rfl (xfa fa118_4 rfl) ?_
   refine LS rfl rfl rfl (fun w' hw' => (xlb6 ag26 (Le.bk hw' hb6) rfl rfl rfl rfl rfl rfl rfl)) ?_
   obtain ⟨A1, cp1, hA1⟩ := hk19.rd.sh.form
   subst hA1
   obtain ⟨A2, cp2, hA2⟩ := hk20.rd.sh.form
   subst hA2
   obtain ⟨A3, cp3, hA3⟩ := hk21.rd.sh.form
   subst hA3
   obtain ⟨A4, cp4, hA4⟩ := hk22.rd.sh.form
   subst hA4
   refine LP rfl rfl rfl (xbd rfl (bd36_0iiissss_1iiissss ((c.turn + (1 : Int)).tmod c.reps) c.t.se c.t.rq _ _ _ _ _ _ _ _ _ _ _ _)) ?_
   refine LUt rfl rfl (xsb sz36 (Le.bk (Le.drew w6) hk24) rfl rfl (agg_cells _) rfl rfl (al_cons rfl (al_cons rfl (al_cons rfl (al_cons hk19.rd.sh.one (al_cons hk20.rd.sh.one (al_cons hk21.rd.sh.one (al_cons hk22.rd.sh.one (al_cons rfl (al_cons rfl (al_cons rfl al_nil))))))))))) ?_
   rintro w7 ⟨hq6, hb7⟩
   dsimp only [put] at hb7
   have hk25 := hq6.bk (ni_old (Nat.lt_of_lt_of_le (bk_lt hb) (Nat.le_refl _)) hb1z ni_nil) (Le.bk (Le.drew w6) hb6)
   have hk26 := Lx.rdx2 hq6 hcc.rd rfl (dr_new (Nat.le_refl _) hb1z dr_nil) (Le.rdx (Le.drew w6) hk19)
   have hk27 := Lx.rdx2 hq6 hca.rd rfl (dr_new (Nat.le_refl _) hb1z dr_nil) (Le.rdx (Le.drew w6) hk20)
   have hk28 := Lx.rdx2 hq6 hcr.rd rfl (dr_new (Nat.le_refl _) hb1z dr_nil) (Le.rdx (Le.drew w6) hk21)
   have hk29 := Lx.rdx2 hq6 hcw.rd rfl (dr_new (Nat.le_refl _) hb1z dr_nil) (Le.rdx (Le.drew w6) hk22)
   have hk30 := Lx.rdx2 hq6 hcl.rd rfl (dr_new (Nat.le_refl _) hb1z dr_nil) (Le.rdx (Le.drew w6) hk23)
   refine LP rfl rfl rfl (xas rfl) ?_
   refine LZ ?_
   refine F_seq ?_
   refine W_ret ?_
   have lx4 : Lx [b] w w3 := (hq2.drop (Lx.trans (Lx.refl _ _) hl1.lx) (dr_in (by simp) dr_nil))
   have lx5 : Lx [b] w w5 := (hq4.drop lx4 (dr_in (by simp) dr_nil))
   have lx6 : Lx [b] w w6 := (hq5.drop (Lx.trans lx5 (Le.drew w5).lx) (dr_in (by simp) dr_nil))
   have lx7 : Lx [b] w w7 := (hq6.drop (Lx.trans lx6 (Le.drew w6).lx) (dr_new (Nat.le_refl _) hb1z dr_nil))
   exact F_endR (rs := [.cell 2 36, .tmp 3]) rfl (.cell rfl (run_ld0 ag36 hb7 rfl) (.tmp rfl .nil)) rfl ⟨_, rfl, .inr ⟨hE, _, _, _, _, (by rw [e]; rfl), lx7, by rw [e]; exact ⟨_, _, _, _, _, hk25, hk26, hk27, hk28, hk29, hk30⟩, hk26, hk27, hk28, hk29⟩⟩
theorem c_answer {S : List Nat} {b : Nat} {c : Cli} {a : Ans} {vx : Value} {w : World} (hc : Cl S w 116 b c) (hok : c.ok) (hbS : b ∈ S) (hS : ∀ i ∈ S, i < w.heap.size) (hx : RdX S w.heap IntE vx a.r.vals) (hn : a.r.vals.length ≤ 4294967296) :
    Fn Try.prog 58 #[.pointer (some ⟨b, 0, none⟩), (.agg #[.int .i64 a.se, .int .i64 a.rq, .int .i64 a.r.e, vx, .int .i64 a.r.slot, .int .i64 a.r.place])] w fun v w' => (ansB c a = false ∧ v = .tuple #[.bool false, .int .i64 (ansE c a)] ∧ Le w w') ∨ (ansB c a = true ∧ v = .tuple #[.bool true, .int .i64 (ansE c a)] ∧ Lx [b] w w' ∧ Cl S w' 116 b (ansC c a)) := by
 refine Fn.enter 75 [(0, _), (1, _)] Try.func58 rfl rfl rfl rfl ?_
 obtain ⟨vc, va, vr, vw, vl, hb, hcc, hca, hcr, hcw, hcl⟩ := id hc
 have hr1 := hok.r1
 have hr2 := hok.r2
 have hq1 := hok.q1
 have hq2 := hok.q2
 have hw1 := hok.w1
 have hw2 := hok.w2
 have ht1 := hok.t1
 have ht2 := hok.t2
 obtain ⟨hzc, hza, hzr, hzw⟩ := hok.sm
 have hzl := hok.lv
 have hxl := hn
 refine W_seq ?_
 refine W_reg (.one 0 (.pure 1 (.pure 2 .nil))) rfl ?_
 refine LT rfl rfl rfl (xbox rfl) ?_
 rintro _ w1 ⟨b1, rfl, hl1, hb1, hb1z⟩
 refine ⟨trivial, ?_⟩
 refine LP rfl rfl rfl (xas rfl) ?_
 refine LP rfl rfl rfl (xas rfl) ?_
 refine LZ ?_
 refine F_seq ?_
 refine W_seq ?_
 refine W_block ?_
 refine W_seq ?_
 refine W_reg (.pure 0 (.one 1 (.pure 2 .nil))) rfl ?_
 refine LP rfl rfl rfl (xmv rfl) ?_
 refine LF rfl rfl rfl has60 rfl (c_none (Le.clx hl1 hc) hok hbS (lt_le hS hl1.size)) ?_
 rintro _ w2 ⟨rfl, hl2⟩
 refine ⟨trivial, ?_⟩
 refine LP rfl rfl rfl (xas rfl) ?_
 refine LZ ?_
 refine F_seq ?_
 refine W_else rfl ?_
 refine W_seq ?_
 refine W_draw (.pure 0 (.pure 1 (.pure 2 (.still 3 (.pure 4 (.pure 5 (.pure 6 (.still 7 (.pure 8 (.pure 9 (.pure 10 (.still 11 (.pure 12 (.pure 13 (.pure 14 (.pure 15 (.still 16 (.pure 17 (.pure 18 (.pure 19 (.still 20 (.pure 21 (.pure 22 (.pure 23 .nil)))))))))))))))))))))))) (Le w2) hfol (by kernel_rfl) (pkt (pkb (pkt pkB))) (Le.drew _) ?_
 refine LP rfl rfl rfl (xmv rfl) ?_
 refine LP rfl rfl rfl (xnc rfl) ?_
 refine LP rfl rfl rfl (xfa fa116_3 rfl) ?_
 refine LS rfl rfl rfl (fun w' hw' => (xld sc4 rfl (cl_bk (Le.bk ((hl1.trans hl2).trans hw') hb) rfl))) ?_
 refine LP rfl rfl rfl (xnot rfl) ?_
 refine LP rfl rfl rfl (xmv rfl) ?_
 refine L_split (t := 15) rfl (fun c2 => ?_) (fun c2 => ?_)
 · -- c2 yes
  try simp only [Bool.not_eq_true', Bool.not_eq_false', decide_eq_true_eq, decide_eq_false_iff_not] at c2
  refine LN rfl rfl rfl ?_
  refine LNs rfl rfl rfl ?_
  refine LN rfl rfl rfl ?_
  refine LN rfl rfl rfl ?_
  refine LN rfl rfl rfl ?_
  refine LNs rfl rfl rfl ?_
  refine LN rfl rfl rfl ?_
  refine LP rfl rfl rfl (xpk1 rfl rfl) ?_
  refine LP rfl rfl rfl (xmv rfl) ?_
  refine LN rfl rfl rfl ?_
  refine LNs rfl rfl rfl ?_
  refine LN rfl rfl rfl ?_
  refine LN rfl rfl rfl ?_
  refine LN rfl rfl rfl ?_
  refine LNs rfl rfl rfl ?_
  refine LN rfl rfl rfl ?_
  refine LP rfl rfl rfl (xpk1 rfl rfl) ?_
  refine LP rfl rfl rfl (xas rfl) ?_
  refine LZ ?_
  refine F_seq ?_
  refine W_if rfl ?_
  refine W_seq ?_
  refine W_reg (.pure 0 (.pure 1 .nil)) rfl ?_
  refine LP rfl rfl rfl (xas rfl) ?_
  refine LP rfl rfl rfl (xas rfl) ?_
  refine LZ ?_
  refine F_seq ?_
  refine W_ret ?_
  refine F_ret_block ?_
  refine F_ret_then ?_
  have hq : c.pend = false ∨ a.se ≠ c.se ∨ a.rq ≠ c.rq := by first | (left; simpa using c2) | (right; left; exact c2) | (right; right; exact c2)
  have hE : ansE c a = 0 := by unfold ansE; rw [if_pos hq]
  have hB : ansB c a = false := by unfold ansB; exact decide_eq_false fun h => h.1 hq
  exact F_endR (rs := [.tmp 4, .tmp 5]) rfl (.tmp rfl (.tmp rfl .nil)) rfl ⟨_, rfl, .inl ⟨hB, (by rw [hE]; rfl), (hl1.trans (hl2.trans (Le.drew w2)))⟩⟩
 · -- c2 no
  try simp only [Bool.not_eq_true', Bool.not_eq_false', decide_eq_true_eq, decide_eq_false_iff_not] at c2
  refine LP rfl rfl rfl (xfa fa52_0 rfl) ?_
  refine LS rfl rfl rfl (fun w' hw' => (xld sc2 rfl (cl_bk (Le.bk (hl2.trans hw') hb1) rfl))) ?_
  refine LP rfl rfl rfl (xmv rfl) ?_
  refine LP rfl rfl rfl (xnc rfl) ?_
  refine LP rfl rfl rfl (xfa fa116_0 rfl) ?_
  refine LS rfl rfl rfl (fun w' hw' => (xld sc2 rfl (cl_bk (Le.bk ((hl1.trans hl2).trans hw') hb) rfl))) ?_
  refine LP rfl rfl rfl (xneq rfl rfl) ?_
  refine LP rfl rfl rfl (xpk0 rfl rfl) ?_
  refine LP rfl rfl rfl (xmv rfl) ?_
  refine L_split (t := 24) rfl (fun c4 => ?_) (fun c4 => ?_)
  · -- c4 yes
   try simp only [Bool.not_eq_true', Bool.not_eq_false', decide_eq_true_eq, decide_eq_false_iff_not] at c4
   refine LN rfl rfl rfl ?_
   refine LNs rfl rfl rfl ?_
   refine LN rfl rfl rfl ?_
   refine LN rfl rfl rfl ?_
   refine LN rfl rfl rfl ?_
   refine LNs rfl rfl rfl ?_
   refine LN rfl rfl rfl ?_
   refine LP rfl rfl rfl (xpk1 rfl rfl) ?_
   refine LP rfl rfl rfl (xas rfl) ?_
   refine LZ ?_
   refine F_seq ?_
   refine W_if rfl ?_
   refine W_seq ?_
   refine W_reg (.pure 0 (.pure 1 .nil)) rfl ?_
   refine LP rfl rfl rfl (xas rfl) ?_
   refine LP rfl rfl rfl (xas rfl) ?_
   refine LZ ?_
   refine F_seq ?_
   refine W_ret ?_
   refine F_ret_block ?_
   refine F_ret_then ?_
   have hq : c.pend = false ∨ a.se ≠ c.se ∨ a.rq ≠ c.rq := by first | (left; simpa using c4) | (right; left; exact c4) | (right; right; exact c4)
   have hE : ansE c a = 0 := by unfold ansE; rw [if_pos hq]
   have hB : ansB c a = false := by unfold ansB; exact decide_eq_false fun h => h.1 hq
   exact F_endR (rs := [.tmp 4, .tmp 5]) rfl (.tmp rfl (.tmp rfl .nil)) rfl ⟨_, rfl, .inl ⟨hB, (by rw [hE]; rfl), (hl1.trans (hl2.trans (Le.drew w2)))⟩⟩
  · -- c4 no
   try simp only [Bool.not_eq_true', Bool.not_eq_false', decide_eq_true_eq, decide_eq_false_iff_not] at c4
   refine LP rfl rfl rfl (xfa fa52_1 rfl) ?_
   refine LS rfl rfl rfl (fun w' hw' => (xld sc2 rfl (cl_bk (Le.bk (hl2.trans hw') hb1) rfl))) ?_
   refine LP rfl rfl rfl (xmv rfl) ?_
   refine LP rfl rfl rfl (xnc rfl) ?_
   refine LP rfl rfl rfl (xfa fa116_2 rfl) ?_
   refine LS rfl rfl rfl (fun w' hw' => (xld sc2 rfl (cl_bk (Le.bk ((hl1.trans hl2).trans hw') hb) rfl))) ?_
   refine LP rfl rfl rfl (xneq rfl rfl) ?_
   refine LP rfl rfl rfl (xpk0 rfl rfl) ?_
   refine LP rfl rfl rfl (xas rfl) ?_
   refine LZ ?_
   refine F_seq ?_
   refine W_cond rfl (fun c6 => ?_) (fun c6 => ?_)
   · -- c6 yes
    try simp only [Bool.not_eq_true', Bool.not_eq_false', decide_eq_true_eq, decide_eq_false_iff_not] at c6
    refine W_seq ?_
    refine W_reg (.pure 0 (.pure 1 .nil)) rfl ?_
    refine LP rfl rfl rfl (xas rfl) ?_
    refine LP rfl rfl rfl (xas rfl) ?_
    refine LZ ?_
    refine F_seq ?_
    refine W_ret ?_
    refine F_ret_block ?_
    refine F_ret_then ?_
    have hq : c.pend = false ∨ a.se ≠ c.se ∨ a.rq ≠ c.rq := by first | (left; simpa using c6) | (right; left; exact c6) | (right; right; exact c6)
    have hE : ansE c a = 0 := by unfold ansE; rw [if_pos hq]
    have hB : ansB c a = false := by unfold ansB; exact decide_eq_false fun h => h.1 hq
    exact F_endR (rs := [.tmp 4, .tmp 5]) rfl (.tmp rfl (.tmp rfl .nil)) rfl ⟨_, rfl, .inl ⟨hB, (by rw [hE]; rfl), (hl1.trans (hl2.trans (Le.drew w2)))⟩⟩
   · -- c6 no
    try simp only [Bool.not_eq_true', Bool.not_eq_false', decide_eq_true_eq, decide_eq_false_iff_not] at c6
    have hq : ¬ (c.pend = false ∨ a.se ≠ c.se ∨ a.rq ≠ c.rq) := by simp_all
    refine W_seq ?_
    refine W_reg (.pure 0 (.pure 1 (.one 2 (.pure 3 (.pure 4 (.pure 5 (.pure 6 (.one 7 (.pure 8 (.pure 9 (.pure 10 .nil))))))))))) rfl ?_
    refine LP rfl rfl rfl (xfa fa52_2 rfl) ?_
    refine LP rfl rfl rfl (xfa fa50_2 rfl) ?_
    refine LX rfl rfl rfl (xld sc2 rfl (cl_bk (Le.bk (hl2.trans (Le.drew w2)) hb1) rfl)) trivial ?_
    refine LP rfl rfl rfl (xlss rfl rfl) ?_
    refine LP rfl rfl rfl (xmv rfl) ?_
    refine L_split (t := 38) rfl (fun c7 => ?_) (fun c7 => ?_)
    · -- c7 yes
     replace c7 := of_decide_eq_true c7
     refine LN rfl rfl rfl ?_
     refine LN rfl rfl rfl ?_
     refine LNo rfl rfl rfl trivial ?_
     refine LN rfl rfl rfl ?_
     refine LP rfl rfl rfl (xpk1 rfl rfl) ?_
     refine LP rfl rfl rfl (xas rfl) ?_
     refine LZ ?_
     refine F_seq ?_
     refine W_if rfl ?_
     refine W_seq ?_
     refine W_reg (.pure 0 (.pure 1 .nil)) rfl ?_
     refine LP rfl rfl rfl (xas rfl) ?_
     refine LP rfl rfl rfl (xas rfl) ?_
     refine LZ ?_
     refine F_seq ?_
     refine W_ret ?_
     refine F_ret_block ?_
     refine F_ret_then ?_
     have hE : ansE c a = 1 := by unfold ansE; rw [if_neg hq, if_pos (by omega)]
     have hB : ansB c a = false := by unfold ansB; exact decide_eq_false fun h => h.2 (by omega)
     exact F_endR (rs := [.tmp 4, .tmp 5]) rfl (.tmp rfl (.tmp rfl .nil)) rfl ⟨_, rfl, .inl ⟨hB, (by rw [hE]; rfl), (hl1.trans (hl2.trans (Le.drew w2)))⟩⟩
    · -- c7 no
     replace c7 := of_decide_eq_false c7
     refine LP rfl rfl rfl (xfa fa52_2 rfl) ?_
     refine LP rfl rfl rfl (xfa fa50_2 rfl) ?_
     refine LX rfl rfl rfl (xld sc2 rfl (cl_bk (Le.bk (hl2.trans (Le.drew w2)) hb1) rfl)) trivial ?_
     refine LP rfl rfl rfl (xgtr rfl rfl) ?_
     refine LP rfl rfl rfl (xpk0 rfl rfl) ?_
     refine LP rfl rfl rfl (xas rfl) ?_
     refine LZ ?_
     refine F_seq ?_
     refine W_cond rfl (fun c9 => ?_) (fun c9 => ?_)
     · -- c9 yes
      replace c9 := of_decide_eq_true c9
      refine W_seq ?_
      refine W_reg (.pure 0 (.pure 1 .nil)) rfl ?_
      refine LP rfl rfl rfl (xas rfl) ?_
      refine LP rfl rfl rfl (xas rfl) ?_
      refine LZ ?_
      refine F_seq ?_
      refine W_ret ?_
      refine F_ret_block ?_
      refine F_ret_then ?_
      have hE : ansE c a = 1 := by unfold ansE; rw [if_neg hq, if_pos (by omega)]
      have hB : ansB c a = false := by unfold ansB; exact decide_eq_false fun h => h.2 (by omega)
      exact F_endR (rs := [.tmp 4, .tmp 5]) rfl (.tmp rfl (.tmp rfl .nil)) rfl ⟨_, rfl, .inl ⟨hB, (by rw [hE]; rfl), (hl1.trans (hl2.trans (Le.drew w2)))⟩⟩
     · -- c9 no
      replace c9 := of_decide_eq_false c9
      refine W_skip ?_
      refine F_block ?_
      refine F_seq ?_
      refine W_seq ?_
      refine W_draw (.pure 0 (.pure 1 (.pure 2 (.pure 3 (.still 4 (.pure 5 (.pure 6 (.one 7 (.pure 8 (.pure 9 (.one 10 (.pure 11 (.pure 12 (.tail 13 .nil)))))))))))))) (Lx [b] w2.drew) hfol (by kernel_rfl) (pkt pkB) (Le.drew _).lx ?_
      refine LP rfl rfl rfl (xmv rfl) ?_
      refine LP rfl rfl rfl (xmv rfl) ?_
      refine LP rfl rfl rfl (xmv rfl) ?_
      refine LP rfl rfl rfl (xfa fa52_2 rfl) ?_
      refine LS rfl rfl rfl (fun w' hw' => (xlb4 ag50 (hw'.bk (ni_new hb1z (Nat.lt_of_lt_of_le (bk_lt hb) (Nat.le_refl _)) ni_nil) (Le.bk (hl2.trans (Le.drew w2)) hb1)) rfl rfl rfl rfl rfl)) ?_
      refine LP rfl rfl rfl (xnc rfl) ?_
      refine LP rfl rfl rfl (xfa fa116_3 rfl) ?_
      refine LU rfl rfl (xsb sz4 (Le.bk (hl1.trans (hl2.trans ((Le.drew w2).trans (Le.drew w2.drew)))) hb) rfl rfl (bool_cells _) rfl rfl (al_cons rfl al_nil)) ?_
      rintro w3 ⟨hq1, hb2⟩
      dsimp only [put] at hb2
      have hk1 := Lx.rdx2 hq1 hcc.rd rfl (dr_in hbS dr_nil) (Le.rdx (hl1.trans (hl2.trans ((Le.drew w2).trans (Le.drew w2.drew)))) hcc)
      have hk2 := Lx.rdx2 hq1 hca.rd rfl (dr_in hbS dr_nil) (Le.rdx (hl1.trans (hl2.trans ((Le.drew w2).trans (Le.drew w2.drew)))) hca)
      have hk3 := Lx.rdx2 hq1 hcr.rd rfl (dr_in hbS dr_nil) (Le.rdx (hl1.trans (hl2.trans ((Le.drew w2).trans (Le.drew w2.drew)))) hcr)
      have hk4 := Lx.rdx2 hq1 hcw.rd rfl (dr_in hbS dr_nil) (Le.rdx (hl1.trans (hl2.trans ((Le.drew w2).trans (Le.drew w2.drew)))) hcw)
      have hk5 := Lx.rdx2 hq1 hcl.rd rfl (dr_in hbS dr_nil) (Le.rdx (hl1.trans (hl2.trans ((Le.drew w2).trans (Le.drew w2.drew)))) hcl)
      have hk6 := Lx.rdx2 hq1 hx.rd rfl (dr_in hbS dr_nil) (Le.rdx (hl1.trans (hl2.trans ((Le.drew w2).trans (Le.drew w2.drew)))) hx)
      have hk7 := hq1.bk (ni_new hb1z (Nat.lt_of_lt_of_le (bk_lt hb) (Nat.le_refl _)) ni_nil) (Le.bk (hl2.trans ((Le.drew w2).trans (Le.drew w2.drew))) hb1)
      have lx1 : Lx [b] w2.drew w3 := (hq1.drop (Lx.trans (Lx.refl _ _) (Le.drew w2.drew).lx) (dr_in (by simp) dr_nil))
      refine ⟨lx1, ?_⟩
      refine LP rfl rfl rfl (xnc rfl) ?_
      refine LP rfl rfl rfl (xfa fa116_8 rfl) ?_
      refine LU rfl rfl (xsb sz4 hb2 rfl rfl (bool_cells _) rfl rfl (al_cons rfl al_nil)) ?_
      rintro w4 ⟨hq2, hb3⟩
      dsimp only [put] at hb3
      have hk8 := Lx.rdx2 hq2 hcc.rd rfl (dr_in hbS dr_nil) hk1
      have hk9 := Lx.rdx2 hq2 hca.rd rfl (dr_in hbS dr_nil) hk2
      have hk10 := Lx.rdx2 hq2 hcr.rd rfl (dr_in hbS dr_nil) hk3
      have hk11 := Lx.rdx2 hq2 hcw.rd rfl (dr_in hbS dr_nil) hk4
      have hk12 := Lx.rdx2 hq2 hcl.rd rfl (dr_in hbS dr_nil) hk5
      have hk13 := Lx.rdx2 hq2 hx.rd rfl (dr_in hbS dr_nil) hk6
      have hk14 := hq2.bk (ni_new hb1z (Nat.lt_of_lt_of_le (bk_lt hb) (Nat.le_refl _)) ni_nil) hk7
      have lx2 : Lx [b] w2.drew w3 := (hq1.drop (Lx.trans (Lx.refl _ _) (Le.drew w2.drew).lx) (dr_in (by simp) dr_nil))
      have lx3 : Lx [b] w2.drew w4 := (hq2.drop lx2 (dr_in (by simp) dr_nil))
      refine ⟨lx3, ?_⟩
      refine LP rfl rfl rfl (xnc rfl) ?_
      refine LP rfl rfl rfl (xfa fa116_9 rfl) ?_
      refine LUt rfl rfl (xsb sz50 hb3 rfl rfl (agg_cells _) rfl rfl (al_cons rfl (al_cons hk13.rd.sh.one (al_cons rfl (al_cons rfl al_nil))))) ?_
      rintro w5 ⟨hq3, hb4⟩
      dsimp only [put] at hb4
      have hk15 := Lx.rdx2 hq3 hcc.rd rfl (dr_in hbS dr_nil) hk8
      have hk16 := Lx.rdx2 hq3 hca.rd rfl (dr_in hbS dr_nil) hk9
      have hk17 := Lx.rdx2 hq3 hcr.rd rfl (dr_in hbS dr_nil) hk10
      have hk18 := Lx.rdx2 hq3 hcw.rd rfl (dr_in hbS dr_nil) hk11
      have hk19 := Lx.rdx2 hq3 hcl.rd rfl (dr_in hbS dr_nil) hk12
      have hk20 := Lx.rdx2 hq3 hx.rd rfl (dr_in hbS dr_nil) hk13
      have hk21 := hq3.bk (ni_new hb1z (Nat.lt_of_lt_of_le (bk_lt hb) (Nat.le_refl _)) ni_nil) hk14
      refine LZ ?_
      refine F_seq ?_
      refine W_seq ?_
      refine W_reg (.pure 0 (.pure 1 (.pure 2 (.one 3 (.one 4 (.pure 5 (.pure 6 (.pure 7 (.one 8 .nil))))))))) rfl ?_
      refine LP rfl rfl rfl (xmv rfl) ?_
      refine LP rfl rfl rfl (xfa fa52_2 rfl) ?_
      refine LP rfl rfl rfl (xfa fa50_1 rfl) ?_
      refine LX rfl rfl rfl (xld sc23 rfl (cl_bk hk21 rfl)) trivial ?_
      refine LF rfl rfl rfl has110 rfl (cloneI hk20.rd (by first | omega | (simp only [List.length_append, List.length_take, List.length_drop, List.length_cons, List.length_nil]; omega))) ?_
      rintro v2 w6 ⟨hl3, ho1⟩
      refine ⟨trivial, ?_⟩
      refine LP rfl rfl rfl (xnc rfl) ?_
      refine LP rfl rfl rfl (xfa fa116_9 rfl) ?_
      refine LP rfl rfl rfl (xfa fa50_1 rfl) ?_
      refine LU rfl rfl (xsb sz23 (Le.bk hl3 hb4) rfl rfl ho1.rd.sh.cells rfl rfl (al_cons ho1.rd.sh.one al_nil)) ?_
      rintro w7 ⟨hq4, hb5⟩
      dsimp only [put] at hb5
      have hk22 := Lx.rdx2 hq4 hcc.rd rfl (dr_in hbS dr_nil) (Le.rdx hl3 hk15)
      have hk23 := Lx.rdx2 hq4 hca.rd rfl (dr_in hbS dr_nil) (Le.rdx hl3 hk16)
      have hk24 := Lx.rdx2 hq4 hcr.rd rfl (dr_in hbS dr_nil) (Le.rdx hl3 hk17)
      have hk25 := Lx.rdx2 hq4 hcw.rd rfl (dr_in hbS dr_nil) (Le.rdx hl3 hk18)
      have hk26 := Lx.rdx2 hq4 hx.rd rfl (dr_in hbS dr_nil) (Le.rdx hl3 hk20)
      have hk27 := hq4.bk (ni_new hb1z (Nat.lt_of_lt_of_le (bk_lt hb) (Nat.le_refl _)) ni_nil) (Le.bk hl3 hk21)
      have hk28 := hq4.ow (Off.cons (Ow.ne_new ho1 (Nat.lt_of_lt_of_le (bk_lt hb) (Nat.le_trans hl1.size (Nat.le_trans hl2.size (Nat.le_trans (Le.drew w2).size (Nat.le_trans (Le.drew w2.drew).size (Nat.le_trans hq1.size (Nat.le_trans hq2.size hq3.size)))))))) Off.nil) ho1
      refine ⟨trivial, ?_⟩
      refine LZ ?_
      refine F_seq ?_
      refine W_seq ?_
      refine W_draw (.pure 0 (.pure 1 (.pure 2 (.pure 3 (.still 4 (.pure 5 (.pure 6 (.still 7 (.pure 8 (.pure 9 (.pure 10 (.pure 11 (.tail 12 .nil))))))))))))) (Le w7) hfol (by kernel_rfl) (pkt pkB) (Le.drew _) ?_
      refine LP rfl rfl rfl (xmv rfl) ?_
      refine LP rfl rfl rfl (xmv rfl) ?_
      refine LP rfl rfl rfl (xnc rfl) ?_
      refine LP rfl rfl rfl (xfa fa116_7 rfl) ?_
      refine LS rfl rfl rfl (fun w' hw' => (xld sc2 rfl (cl_bk (Le.bk hw' hb5) rfl))) ?_
      refine LP rfl rfl rfl (xfa fa52_2 rfl) ?_
      refine LP rfl rfl rfl (xfa fa50_2 rfl) ?_
      refine LS rfl rfl rfl (fun w' hw' => (xld sc2 rfl (cl_bk (Le.bk hw' hk27) rfl))) ?_
      refine LP rfl rfl rfl (xaddn rfl rfl (by omega)) ?_
      refine LP rfl rfl rfl (xmax rfl rfl) ?_
      refine LP rfl rfl rfl (xnc rfl) ?_
      refine LP rfl rfl rfl (xfa fa116_7 rfl) ?_
      refine LUt rfl rfl (xsb sz2 (Le.bk (Le.drew w7) hb5) rfl rfl (int_cells _ _) rfl rfl (al_cons rfl al_nil)) ?_
      rintro w8 ⟨hq5, hb6⟩
      dsimp only [put] at hb6
      have hk29 := Lx.rdx2 hq5 hcc.rd rfl (dr_in hbS dr_nil) (Le.rdx (Le.drew w7) hk22)
      have hk30 := Lx.rdx2 hq5 hca.rd rfl (dr_in hbS dr_nil) (Le.rdx (Le.drew w7) hk23)
      have hk31 := Lx.rdx2 hq5 hcr.rd rfl (dr_in hbS dr_nil) (Le.rdx (Le.drew w7) hk24)
      have hk32 := Lx.rdx2 hq5 hcw.rd rfl (dr_in hbS dr_nil) (Le.rdx (Le.drew w7) hk25)
      have hk33 := hq5.ow (Off.cons (Ow.ne_new ho1 (Nat.lt_of_lt_of_le (bk_lt hb) (Nat.le_trans hl1.size (Nat.le_trans hl2.size (Nat.le_trans (Le.drew w2).size (Nat.le_trans (Le.drew w2.drew).size (Nat.le_trans hq1.size (Nat.le_trans hq2.size hq3.size)))))))) Off.nil) (hk28.le (Le.drew w7))
      have hk34 := Lx.rdx2 hq5 hx.rd rfl (dr_in hbS dr_nil) (Le.rdx (Le.drew w7) hk26)
      have hk35 := hq5.bk (ni_new hb1z (Nat.lt_of_lt_of_le (bk_lt hb) (Nat.le_refl _)) ni_nil) (Le.bk (Le.drew w7) hk27)
      refine LZ ?_
      refine F_seq ?_
      refine W_seq ?_
      refine W_reg (.pure 0 (.pure 1 .nil)) rfl ?_
      refine LP rfl rfl rfl (xas rfl) ?_
      refine LP rfl rfl rfl (xas rfl) ?_
      refine LZ ?_
      refine F_seq ?_
      refine W_ret ?_
      have lx4 : Lx [b] w w3 := (hq1.drop (Lx.trans (Lx.trans (Lx.trans (Lx.trans (Lx.refl _ _) hl1.lx) hl2.lx) (Le.drew w2).lx) (Le.drew w2.drew).lx) (dr_in (by simp) dr_nil))
      have lx5 : Lx [b] w w4 := (hq2.drop lx4 (dr_in (by simp) dr_nil))
      have lx6 : Lx [b] w w5 := (hq3.drop lx5 (dr_in (by simp) dr_nil))
      have lx7 : Lx [b] w w7 := (hq4.drop (Lx.trans lx6 hl3.lx) (dr_in (by simp) dr_nil))
      have lx8 : Lx [b] w w8 := (hq5.drop (Lx.trans lx7 (Le.drew w7).lx) (dr_in (by simp) dr_nil))
      have hE : ansE c a = 0 := by unfold ansE; rw [if_neg hq, if_neg (by omega)]
      have hB : ansB c a = true := by unfold ansB; exact decide_eq_true ⟨hq, by omega⟩
      exact F_endR (rs := [.tmp 4, .tmp 5]) rfl (.tmp rfl (.tmp rfl .nil)) rfl ⟨_, rfl, .inr ⟨hB, (by rw [hE]; rfl), lx8, ⟨_, _, _, _, _, hb6, hk29, hk30, hk31, hk32, (Ow.rdx hk33 (lt_le hS (Nat.le_trans hl1.size (Nat.le_trans hl2.size (Nat.le_trans (Le.drew w2).size (Nat.le_trans (Le.drew w2.drew).size (Nat.le_trans hq1.size (Nat.le_trans hq2.size hq3.size))))))))⟩⟩⟩
theorem r_answer {S : List Nat} {b : Nat} {c : Cli} {a : Ans} {vx : Value} {w : World} (hc : Cl S w 118 b c) (hok : c.ok) (hbS : b ∈ S) (hS : ∀ i ∈ S, i < w.heap.size) (hx : RdX S w.heap IntE vx a.r.vals) (hn : a.r.vals.length ≤ 4294967296) :
    Fn Try.prog 71 #[.pointer (some ⟨b, 0, none⟩), (.agg #[.int .i64 a.se, .int .i64 a.rq, .int .i64 a.r.e, vx, .int .i64 a.r.slot, .int .i64 a.r.place])] w fun v w' => (ansB c a = false ∧ v = .tuple #[.bool false, .int .i64 (ansE c a)] ∧ Le w w') ∨ (ansB c a = true ∧ v = .tuple #[.bool true, .int .i64 (ansE c a)] ∧ Lx [b] w w' ∧ Cl S w' 118 b (ansC c a)) := by
 refine Fn.enter 62 [(0, _), (1, _)] Try.func71 rfl rfl rfl rfl ?_
 obtain ⟨vc, va, vr, vw, vl, hb, hcc, hca, hcr, hcw, hcl⟩ := id hc
 have hr1 := hok.r1
 have hr2 := hok.r2
 have hq1 := hok.q1
 have hq2 := hok.q2
 have hw1 := hok.w1
 have hw2 := hok.w2
 have ht1 := hok.t1
 have ht2 := hok.t2
 obtain ⟨hzc, hza, hzr, hzw⟩ := hok.sm
 have hzl := hok.lv
 have hxl := hn
 refine W_seq ?_
 refine W_reg (.one 0 (.pure 1 (.pure 2 .nil))) rfl ?_
 refine LT rfl rfl rfl (xbox rfl) ?_
 rintro _ w1 ⟨b1, rfl, hl1, hb1, hb1z⟩
 refine ⟨trivial, ?_⟩
 refine LP rfl rfl rfl (xas rfl) ?_
 refine LP rfl rfl rfl (xas rfl) ?_
 refine LZ ?_
 refine F_seq ?_
 refine W_seq ?_
 refine W_seq ?_
 refine W_draw (.pure 0 (.pure 1 (.pure 2 (.still 3 (.pure 4 (.pure 5 (.pure 6 (.still 7 (.pure 8 (.pure 9 (.pure 10 (.still 11 (.pure 12 (.pure 13 (.pure 14 (.pure 15 (.still 16 (.pure 17 (.pure 18 (.pure 19 (.still 20 (.pure 21 (.pure 22 .nil))))))))))))))))))))))) (Le w1) hfol (by kernel_rfl) (pkt (pkt pkB)) (Le.drew _) ?_
 refine LP rfl rfl rfl (xmv rfl) ?_
 refine LP rfl rfl rfl (xnc rfl) ?_
 refine LP rfl rfl rfl (xfa fa118_3 rfl) ?_
 refine LS rfl rfl rfl (fun w' hw' => (xld sc4 rfl (cl_bk (Le.bk (hl1.trans hw') hb) rfl))) ?_
 refine LP rfl rfl rfl (xnot rfl) ?_
 refine LP rfl rfl rfl (xmv rfl) ?_
 refine L_split (t := 11) rfl (fun c1 => ?_) (fun c1 => ?_)
 · -- c1 yes
  try simp only [Bool.not_eq_true', Bool.not_eq_false', decide_eq_true_eq, decide_eq_false_iff_not] at c1
  refine LN rfl rfl rfl ?_
  refine LNs rfl rfl rfl ?_
  refine LN rfl rfl rfl ?_
  refine LN rfl rfl rfl ?_
  refine LN rfl rfl rfl ?_
  refine LNs rfl rfl rfl ?_
  refine LN rfl rfl rfl ?_
  refine LP rfl rfl rfl (xpk1 rfl rfl) ?_
  refine LP rfl rfl rfl (xmv rfl) ?_
  refine LN rfl rfl rfl ?_
  refine LNs rfl rfl rfl ?_
  refine LN rfl rfl rfl ?_
  refine LN rfl rfl rfl ?_
  refine LN rfl rfl rfl ?_
  refine LNs rfl rfl rfl ?_
  refine LN rfl rfl rfl ?_
  refine LP rfl rfl rfl (xpk1 rfl rfl) ?_
  refine LZ ?_
  refine F_seq ?_
  refine W_if rfl ?_
  refine W_seq ?_
  refine W_reg (.pure 0 (.pure 1 .nil)) rfl ?_
  refine LP rfl rfl rfl (xas rfl) ?_
  refine LP rfl rfl rfl (xas rfl) ?_
  refine LZ ?_
  refine F_seq ?_
  refine W_ret ?_
  refine F_ret_then ?_
  have hq : c.pend = false ∨ a.se ≠ c.se ∨ a.rq ≠ c.rq := by first | (left; simpa using c1) | (right; left; exact c1) | (right; right; exact c1)
  have hE : ansE c a = 0 := by unfold ansE; rw [if_pos hq]
  have hB : ansB c a = false := by unfold ansB; exact decide_eq_false fun h => h.1 hq
  exact F_endR (rs := [.tmp 4, .tmp 5]) rfl (.tmp rfl (.tmp rfl .nil)) rfl ⟨_, rfl, .inl ⟨hB, (by rw [hE]; rfl), (hl1.trans (Le.drew w1))⟩⟩
 · -- c1 no
  try simp only [Bool.not_eq_true', Bool.not_eq_false', decide_eq_true_eq, decide_eq_false_iff_not] at c1
  refine LP rfl rfl rfl (xfa fa52_0 rfl) ?_
  refine LS rfl rfl rfl (fun w' hw' => (xld sc2 rfl (cl_bk (Le.bk hw' hb1) rfl))) ?_
  refine LP rfl rfl rfl (xmv rfl) ?_
  refine LP rfl rfl rfl (xnc rfl) ?_
  refine LP rfl rfl rfl (xfa fa118_0 rfl) ?_
  refine LS rfl rfl rfl (fun w' hw' => (xld sc2 rfl (cl_bk (Le.bk (hl1.trans hw') hb) rfl))) ?_
  refine LP rfl rfl rfl (xneq rfl rfl) ?_
  refine LP rfl rfl rfl (xpk0 rfl rfl) ?_
  refine LP rfl rfl rfl (xmv rfl) ?_
  refine L_split (t := 20) rfl (fun c3 => ?_) (fun c3 => ?_)
  · -- c3 yes
   try simp only [Bool.not_eq_true', Bool.not_eq_false', decide_eq_true_eq, decide_eq_false_iff_not] at c3
   refine LN rfl rfl rfl ?_
   refine LNs rfl rfl rfl ?_
   refine LN rfl rfl rfl ?_
   refine LN rfl rfl rfl ?_
   refine LN rfl rfl rfl ?_
   refine LNs rfl rfl rfl ?_
   refine LN rfl rfl rfl ?_
   refine LP rfl rfl rfl (xpk1 rfl rfl) ?_
   refine LZ ?_
   refine F_seq ?_
   refine W_if rfl ?_
   refine W_seq ?_
   refine W_reg (.pure 0 (.pure 1 .nil)) rfl ?_
   refine LP rfl rfl rfl (xas rfl) ?_
   refine LP rfl rfl rfl (xas rfl) ?_
   refine LZ ?_
   refine F_seq ?_
   refine W_ret ?_
   refine F_ret_then ?_
   have hq : c.pend = false ∨ a.se ≠ c.se ∨ a.rq ≠ c.rq := by first | (left; simpa using c3) | (right; left; exact c3) | (right; right; exact c3)
   have hE : ansE c a = 0 := by unfold ansE; rw [if_pos hq]
   have hB : ansB c a = false := by unfold ansB; exact decide_eq_false fun h => h.1 hq
   exact F_endR (rs := [.tmp 4, .tmp 5]) rfl (.tmp rfl (.tmp rfl .nil)) rfl ⟨_, rfl, .inl ⟨hB, (by rw [hE]; rfl), (hl1.trans (Le.drew w1))⟩⟩
  · -- c3 no
   try simp only [Bool.not_eq_true', Bool.not_eq_false', decide_eq_true_eq, decide_eq_false_iff_not] at c3
   refine LP rfl rfl rfl (xfa fa52_1 rfl) ?_
   refine LS rfl rfl rfl (fun w' hw' => (xld sc2 rfl (cl_bk (Le.bk hw' hb1) rfl))) ?_
   refine LP rfl rfl rfl (xmv rfl) ?_
   refine LP rfl rfl rfl (xnc rfl) ?_
   refine LP rfl rfl rfl (xfa fa118_2 rfl) ?_
   refine LS rfl rfl rfl (fun w' hw' => (xld sc2 rfl (cl_bk (Le.bk (hl1.trans hw') hb) rfl))) ?_
   refine LP rfl rfl rfl (xneq rfl rfl) ?_
   refine LP rfl rfl rfl (xpk0 rfl rfl) ?_
   refine LZ ?_
   refine F_seq ?_
   refine W_cond rfl (fun c5 => ?_) (fun c5 => ?_)
   · -- c5 yes
    try simp only [Bool.not_eq_true', Bool.not_eq_false', decide_eq_true_eq, decide_eq_false_iff_not] at c5
    refine W_seq ?_
    refine W_reg (.pure 0 (.pure 1 .nil)) rfl ?_
    refine LP rfl rfl rfl (xas rfl) ?_
    refine LP rfl rfl rfl (xas rfl) ?_
    refine LZ ?_
    refine F_seq ?_
    refine W_ret ?_
    refine F_ret_then ?_
    have hq : c.pend = false ∨ a.se ≠ c.se ∨ a.rq ≠ c.rq := by first | (left; simpa using c5) | (right; left; exact c5) | (right; right; exact c5)
    have hE : ansE c a = 0 := by unfold ansE; rw [if_pos hq]
    have hB : ansB c a = false := by unfold ansB; exact decide_eq_false fun h => h.1 hq
    exact F_endR (rs := [.tmp 4, .tmp 5]) rfl (.tmp rfl (.tmp rfl .nil)) rfl ⟨_, rfl, .inl ⟨hB, (by rw [hE]; rfl), (hl1.trans (Le.drew w1))⟩⟩
   · -- c5 no
    try simp only [Bool.not_eq_true', Bool.not_eq_false', decide_eq_true_eq, decide_eq_false_iff_not] at c5
    have hq : ¬ (c.pend = false ∨ a.se ≠ c.se ∨ a.rq ≠ c.rq) := by simp_all
    refine W_skip ?_
    refine F_seq ?_
    refine W_seq ?_
    refine W_seq ?_
    refine W_reg (.pure 0 (.pure 1 (.one 2 (.pure 3 (.pure 4 (.pure 5 (.pure 6 (.one 7 (.pure 8 (.pure 9 .nil)))))))))) rfl ?_
    refine LP rfl rfl rfl (xfa fa52_2 rfl) ?_
    refine LP rfl rfl rfl (xfa fa50_2 rfl) ?_
    refine LX rfl rfl rfl (xld sc2 rfl (cl_bk (Le.bk (Le.drew w1) hb1) rfl)) trivial ?_
    refine LP rfl rfl rfl (xlss rfl rfl) ?_
    refine LP rfl rfl rfl (xmv rfl) ?_
    refine L_split (t := 33) rfl (fun c6 => ?_) (fun c6 => ?_)
    · -- c6 yes
     replace c6 := of_decide_eq_true c6
     refine LN rfl rfl rfl ?_
     refine LN rfl rfl rfl ?_
     refine LNo rfl rfl rfl trivial ?_
     refine LN rfl rfl rfl ?_
     refine LP rfl rfl rfl (xpk1 rfl rfl) ?_
     refine LZ ?_
     refine F_seq ?_
     refine W_if rfl ?_
     refine W_seq ?_
     refine W_reg (.pure 0 (.pure 1 .nil)) rfl ?_
     refine LP rfl rfl rfl (xas rfl) ?_
     refine LP rfl rfl rfl (xas rfl) ?_
     refine LZ ?_
     refine F_seq ?_
     refine W_ret ?_
     refine F_ret_then ?_
     have hE : ansE c a = 1 := by unfold ansE; rw [if_neg hq, if_pos (by omega)]
     have hB : ansB c a = false := by unfold ansB; exact decide_eq_false fun h => h.2 (by omega)
     exact F_endR (rs := [.tmp 4, .tmp 5]) rfl (.tmp rfl (.tmp rfl .nil)) rfl ⟨_, rfl, .inl ⟨hB, (by rw [hE]; rfl), (hl1.trans (Le.drew w1))⟩⟩
    · -- c6 no
     replace c6 := of_decide_eq_false c6
     refine LP rfl rfl rfl (xfa fa52_2 rfl) ?_
     refine LP rfl rfl rfl (xfa fa50_2 rfl) ?_
     refine LX rfl rfl rfl (xld sc2 rfl (cl_bk (Le.bk (Le.drew w1) hb1) rfl)) trivial ?_
     refine LP rfl rfl rfl (xgtr rfl rfl) ?_
     refine LP rfl rfl rfl (xpk0 rfl rfl) ?_
     refine LZ ?_
     refine F_seq ?_
     refine W_cond rfl (fun c8 => ?_) (fun c8 => ?_)
     · -- c8 yes
      replace c8 := of_decide_eq_true c8
      refine W_seq ?_
      refine W_reg (.pure 0 (.pure 1 .nil)) rfl ?_
      refine LP rfl rfl rfl (xas rfl) ?_
      refine LP rfl rfl rfl (xas rfl) ?_
      refine LZ ?_
      refine F_seq ?_
      refine W_ret ?_
      refine F_ret_then ?_
      have hE : ansE c a = 1 := by unfold ansE; rw [if_neg hq, if_pos (by omega)]
      have hB : ansB c a = false := by unfold ansB; exact decide_eq_false fun h => h.2 (by omega)
      exact F_endR (rs := [.tmp 4, .tmp 5]) rfl (.tmp rfl (.tmp rfl .nil)) rfl ⟨_, rfl, .inl ⟨hB, (by rw [hE]; rfl), (hl1.trans (Le.drew w1))⟩⟩
     · -- c8 no
      replace c8 := of_decide_eq_false c8
      refine W_skip ?_
      refine F_seq ?_
      refine W_seq ?_
      refine W_draw (.pure 0 (.pure 1 (.pure 2 (.pure 3 (.still 4 (.pure 5 (.pure 6 (.one 7 (.pure 8 (.pure 9 (.one 10 (.pure 11 (.pure 12 (.tail 13 .nil)))))))))))))) (Lx [b] w1.drew) hfol (by kernel_rfl) (pkt pkB) (Le.drew _).lx ?_
      refine LP rfl rfl rfl (xmv rfl) ?_
      refine LP rfl rfl rfl (xmv rfl) ?_
      refine LP rfl rfl rfl (xmv rfl) ?_
      refine LP rfl rfl rfl (xfa fa52_2 rfl) ?_
      refine LS rfl rfl rfl (fun w' hw' => (xlb4 ag50 (hw'.bk (ni_new hb1z (Nat.lt_of_lt_of_le (bk_lt hb) (Nat.le_refl _)) ni_nil) (Le.bk (Le.drew w1) hb1)) rfl rfl rfl rfl rfl)) ?_
      refine LP rfl rfl rfl (xnc rfl) ?_
      refine LP rfl rfl rfl (xfa fa118_3 rfl) ?_
      refine LU rfl rfl (xsb sz4 (Le.bk (hl1.trans ((Le.drew w1).trans (Le.drew w1.drew))) hb) rfl rfl (bool_cells _) rfl rfl (al_cons rfl al_nil)) ?_
      rintro w2 ⟨hq1, hb2⟩
      dsimp only [put] at hb2
      have hk1 := Lx.rdx2 hq1 hcc.rd rfl (dr_in hbS dr_nil) (Le.rdx (hl1.trans ((Le.drew w1).trans (Le.drew w1.drew))) hcc)
      have hk2 := Lx.rdx2 hq1 hca.rd rfl (dr_in hbS dr_nil) (Le.rdx (hl1.trans ((Le.drew w1).trans (Le.drew w1.drew))) hca)
      have hk3 := Lx.rdx2 hq1 hcr.rd rfl (dr_in hbS dr_nil) (Le.rdx (hl1.trans ((Le.drew w1).trans (Le.drew w1.drew))) hcr)
      have hk4 := Lx.rdx2 hq1 hcw.rd rfl (dr_in hbS dr_nil) (Le.rdx (hl1.trans ((Le.drew w1).trans (Le.drew w1.drew))) hcw)
      have hk5 := Lx.rdx2 hq1 hcl.rd rfl (dr_in hbS dr_nil) (Le.rdx (hl1.trans ((Le.drew w1).trans (Le.drew w1.drew))) hcl)
      have hk6 := Lx.rdx2 hq1 hx.rd rfl (dr_in hbS dr_nil) (Le.rdx (hl1.trans ((Le.drew w1).trans (Le.drew w1.drew))) hx)
      have hk7 := hq1.bk (ni_new hb1z (Nat.lt_of_lt_of_le (bk_lt hb) (Nat.le_refl _)) ni_nil) (Le.bk ((Le.drew w1).trans (Le.drew w1.drew)) hb1)
      have lx1 : Lx [b] w1.drew w2 := (hq1.drop (Lx.trans (Lx.refl _ _) (Le.drew w1.drew).lx) (dr_in (by simp) dr_nil))
      refine ⟨lx1, ?_⟩
      refine LP rfl rfl rfl (xnc rfl) ?_
      refine LP rfl rfl rfl (xfa fa118_8 rfl) ?_
      refine LU rfl rfl (xsb sz4 hb2 rfl rfl (bool_cells _) rfl rfl (al_cons rfl al_nil)) ?_
      rintro w3 ⟨hq2, hb3⟩
      dsimp only [put] at hb3
      have hk8 := Lx.rdx2 hq2 hcc.rd rfl (dr_in hbS dr_nil) hk1
      have hk9 := Lx.rdx2 hq2 hca.rd rfl (dr_in hbS dr_nil) hk2
      have hk10 := Lx.rdx2 hq2 hcr.rd rfl (dr_in hbS dr_nil) hk3
      have hk11 := Lx.rdx2 hq2 hcw.rd rfl (dr_in hbS dr_nil) hk4
      have hk12 := Lx.rdx2 hq2 hcl.rd rfl (dr_in hbS dr_nil) hk5
      have hk13 := Lx.rdx2 hq2 hx.rd rfl (dr_in hbS dr_nil) hk6
      have hk14 := hq2.bk (ni_new hb1z (Nat.lt_of_lt_of_le (bk_lt hb) (Nat.le_refl _)) ni_nil) hk7
      have lx2 : Lx [b] w1.drew w2 := (hq1.drop (Lx.trans (Lx.refl _ _) (Le.drew w1.drew).lx) (dr_in (by simp) dr_nil))
      have lx3 : Lx [b] w1.drew w3 := (hq2.drop lx2 (dr_in (by simp) dr_nil))
      refine ⟨lx3, ?_⟩
      refine LP rfl rfl rfl (xnc rfl) ?_
      refine LP rfl rfl rfl (xfa fa118_9 rfl) ?_
      refine LUt rfl rfl (xsb sz50 hb3 rfl rfl (agg_cells _) rfl rfl (al_cons rfl (al_cons hk13.rd.sh.one (al_cons rfl (al_cons rfl al_nil))))) ?_
      rintro w4 ⟨hq3, hb4⟩
      dsimp only [put] at hb4
      have hk15 := Lx.rdx2 hq3 hcc.rd rfl (dr_in hbS dr_nil) hk8
      have hk16 := Lx.rdx2 hq3 hca.rd rfl (dr_in hbS dr_nil) hk9
      have hk17 := Lx.rdx2 hq3 hcr.rd rfl (dr_in hbS dr_nil) hk10
      have hk18 := Lx.rdx2 hq3 hcw.rd rfl (dr_in hbS dr_nil) hk11
      have hk19 := Lx.rdx2 hq3 hcl.rd rfl (dr_in hbS dr_nil) hk12
      have hk20 := Lx.rdx2 hq3 hx.rd rfl (dr_in hbS dr_nil) hk13
      have hk21 := hq3.bk (ni_new hb1z (Nat.lt_of_lt_of_le (bk_lt hb) (Nat.le_refl _)) ni_nil) hk14
      refine LZ ?_
      refine F_seq ?_
      refine W_seq ?_
      refine W_draw (.pure 0 (.pure 1 (.pure 2 (.pure 3 (.still 4 (.pure 5 (.pure 6 (.still 7 (.pure 8 (.pure 9 (.pure 10 (.pure 11 (.tail 12 .nil))))))))))))) (Le w4) hfol (by kernel_rfl) (pkt pkB) (Le.drew _) ?_
      refine LP rfl rfl rfl (xmv rfl) ?_
      refine LP rfl rfl rfl (xmv rfl) ?_
      refine LP rfl rfl rfl (xnc rfl) ?_
      refine LP rfl rfl rfl (xfa fa118_7 rfl) ?_
      refine LS rfl rfl rfl (fun w' hw' => (xld sc2 rfl (cl_bk (Le.bk hw' hb4) rfl))) ?_
      refine LP rfl rfl rfl (xfa fa52_2 rfl) ?_
      refine LP rfl rfl rfl (xfa fa50_2 rfl) ?_
      refine LS rfl rfl rfl (fun w' hw' => (xld sc2 rfl (cl_bk (Le.bk hw' hk21) rfl))) ?_
      refine LP rfl rfl rfl (xaddn rfl rfl (by omega)) ?_
      refine LP rfl rfl rfl (xmax rfl rfl) ?_
      refine LP rfl rfl rfl (xnc rfl) ?_
      refine LP rfl rfl rfl (xfa fa118_7 rfl) ?_
      refine LUt rfl rfl (xsb sz2 (Le.bk (Le.drew w4) hb4) rfl rfl (int_cells _ _) rfl rfl (al_cons rfl al_nil)) ?_
      rintro w5 ⟨hq4, hb5⟩
      dsimp only [put] at hb5
      have hk22 := Lx.rdx2 hq4 hcc.rd rfl (dr_in hbS dr_nil) (Le.rdx (Le.drew w4) hk15)
      have hk23 := Lx.rdx2 hq4 hca.rd rfl (dr_in hbS dr_nil) (Le.rdx (Le.drew w4) hk16)
      have hk24 := Lx.rdx2 hq4 hcr.rd rfl (dr_in hbS dr_nil) (Le.rdx (Le.drew w4) hk17)
      have hk25 := Lx.rdx2 hq4 hcw.rd rfl (dr_in hbS dr_nil) (Le.rdx (Le.drew w4) hk18)
      have hk26 := Lx.rdx2 hq4 hx.rd rfl (dr_in hbS dr_nil) (Le.rdx (Le.drew w4) hk20)
      have hk27 := hq4.bk (ni_new hb1z (Nat.lt_of_lt_of_le (bk_lt hb) (Nat.le_refl _)) ni_nil) (Le.bk (Le.drew w4) hk21)
      refine LZ ?_
      refine F_seq ?_
      refine W_seq ?_
      refine W_reg (.pure 0 (.pure 1 .nil)) rfl ?_
      refine LP rfl rfl rfl (xas rfl) ?_
      refine LP rfl rfl rfl (xas rfl) ?_
      refine LZ ?_
      refine F_seq ?_
      refine W_ret ?_
      have lx4 : Lx [b] w w2 := (hq1.drop (Lx.trans (Lx.trans (Lx.trans (Lx.refl _ _) hl1.lx) (Le.drew w1).lx) (Le.drew w1.drew).lx) (dr_in (by simp) dr_nil))
      have lx5 : Lx [b] w w3 := (hq2.drop lx4 (dr_in (by simp) dr_nil))
      have lx6 : Lx [b] w w4 := (hq3.drop lx5 (dr_in (by simp) dr_nil))
      have lx7 : Lx [b] w w5 := (hq4.drop (Lx.trans lx6 (Le.drew w4).lx) (dr_in (by simp) dr_nil))
      have hE : ansE c a = 0 := by unfold ansE; rw [if_neg hq, if_neg (by omega)]
      have hB : ansB c a = true := by unfold ansB; exact decide_eq_true ⟨hq, by omega⟩
      exact F_endR (rs := [.tmp 4, .tmp 5]) rfl (.tmp rfl (.tmp rfl .nil)) rfl ⟨_, rfl, .inr ⟨hB, (by rw [hE]; rfl), lx7, ⟨_, _, _, _, _, hb5, hk22, hk23, hk24, hk25, hk26⟩⟩⟩
end Go.Proofs.Ythmhbonhagjnnaa
